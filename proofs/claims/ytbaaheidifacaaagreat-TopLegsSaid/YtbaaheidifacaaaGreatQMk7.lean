import Derived.Test.YtbaaheidifacaaaGreatQMatch8
set_option linter.defProp false
set_option linter.unusedVariables false
set_option linter.unusedSimpArgs false
set_option maxRecDepth 100000
set_option maxHeartbeats 12800000
namespace Go.Proofs.YtbaaheidifacaaaGreat
variable {G:Nat} {P:PD} {W w:World} {c:bN} {ma sa:Option Addr} {u:Int→Bool}
open Go.RowKit
def JI (id:Int) (k:Nat) (p:Int) (e:dn):Value:= .agg #[Iz id,Iz ((k:Int)+1),Iz p,Iz e.aw, .bool e.top]
theorem CN (g:Nat) (P:PD) (m:Mk) (Gs R:Nat->Prop) (C:zt) (x k:Nat) (M:BM) (r:iQ) (e:dn) (id:Int) (w:World) (h:jW w Gs R g P m C) (hM:m.S[x]?=some M) (hr:r∈M.side k) (he:e∈r.2) (ay:e.id=id) (hk:k<2):
  Wz 42 #[Pz g,Iz id,Iz (x:Int),JI id k r.1 e] w (ic w Gs R g P C 1 (dG m id x k r.1 e)):=by
 unfold JI;obtain⟨w0,I⟩:=Zn (w.alloc (.cells #[Iz id,Iz ((k:Int)+1),Iz r.1,Iz e.aw, .bool e.top] 81));obtain⟨go,O⟩:=Zn w.heap.size;have D0:=Zq I O;have B0:=Zw I;have h0:=h.below B0;have a0:Cz w0 g 11 (Pz C.s):=h0.b.D.cell 11;have a2:g<w0.heap.size:=h0.b.D.lt;have a5:go<w0.heap.size:=D0.lt;have bc:∀u,aR w0.drew u->Cz u g 11 (Pz C.s):=fun u hu=>Yb hu a2 a0;have o3:∀u,aR w0.drew u->Cz u go 3 (Iz e.aw):=fun u hu=>Yb hu a5 (D0.cell 3);have a6:1<=e.aw:=((h.st.JH hM).ok e (fX hr he)).1;obtain⟨H,H0,a7,bf,HM,HR,HE,bh,bp,HQ⟩:=QM h h0 B0 D0 hM hr he ay O a6;clear h h0 B0 D0 hM hr he ay a0 a2 a5 a6
 go_enter Tryz.func42,Tryz.ntmps42
 go_upto_region 1 with(fail)
 rw[<-I,<-O];clear I O;refine bx (R:=aR) 7 [7] [0,1,2,3,4,5,6,7] (by kernel_rfl) aR.tr aR.J (by kernel_rfl) (fun _ _ _ _ _ h=>h) ?_;refine Yt ?_;clear bc o3;refine Zl fun K hK=>?_;go_simp;refine(vp C.s P m.S Gs R x k M r e id e.aw _ H0.st.drew HM HR HE bh hk ⟨HQ,cM _⟩).mono ?_;rintro en w1⟨rfl,a8,L1⟩;have ax:Lv Gs w0 w1:=(Lv.drew (Lv.refl _ w0)).then L1;have M1:=H0.h.state (S':=cutAt m.S x id e.aw) a8 ax (fun j hj=>hj) (fun i hs=>H0.su i ((Sub.cutAt _ _ _ _).stands hs));have D1:=bf.h.lv ax (fun hg=>jE (H.h.gl _ hg) bp.h);have q1:=D1.cell 1;have q2:=D1.cell 2;have q3:=D1.cell 3;obtain⟨ba,bb⟩:=dF M1 ax;clear a8 L1 ax M1 D1;refine Yl hK ?_;refine aT ?_;go_wp2_with fail;go_ret;have bt:=bb.h.size;have bE:=a7.h.size;have L:Lv (fun j=>j=C.ub\/Gs j) w w1:=(Lv.bL a7).trans bb fun j hj=> .inl (.inr hj);refine⟨af _,some ⟨w1.heap.size,0,none⟩,1,_,rfl,?_,ba.below (au (aa _ _) _),L.alloc _,fun j hj=>?_,fun b hb hg=>?_⟩
 ·exact cI (base:=w.heap.size) (size:=8) w1 #[Iz 4,Iz id,Iz (x:Int),Iz ((k:Int)+1),Iz r.1,Iz e.aw,Iz 0,Iz 0] 1 ae (by unfold maxLen;omega) rfl
 ·rcases hj with h1|h1
  ·exact .inl h1
  ·have h2:w0.heap.size<=j:=h1.1
   exact .inr ⟨ae,by have:=h1.2;simp;omega⟩
 ·have bH:w1.heap.size=b:=by injection hb
  have:=ba.h.gl b hg;omega
theorem CO (g:Nat) (P:PD) (m:Mk) (Gs R:Nat->Prop) (C:zt) (x k:Nat) (M:BM) (r:iQ) (e:dn) (id aw:Int) (w:World) (h:jW w Gs R g P m C) (hM:m.S[x]?=some M) (hr:r∈M.side k) (he:e∈r.2) (a0:e.id=id) (hk:k<2) (hq:0<=aw/\aw<=e.aw):
  Wz 43 #[Pz g,Iz id,Iz aw,Iz (x:Int),JI id k r.1 e] w (ic w Gs R g P C 1 (jh m id aw x k r.1 e)):=by
 unfold JI;obtain⟨w0,J⟩:=Zn (w.alloc (.cells #[Iz id,Iz ((k:Int)+1),Iz r.1,Iz e.aw, .bool e.top] 81));obtain⟨go,O⟩:=Zn w.heap.size;have D0:=Zq J O;have B0:=Zw J;have h0:=h.below B0;have a8:Cz w0 g 11 (Pz C.s):=h0.b.D.cell 11;obtain⟨ba,bb,_⟩:=(h.st.JH hM).ok e (fX hr he);have ax:=h.st.JH hM;obtain⟨H,H0,a2,bc,HM,HR,HE,a5,bf,HQ,bh⟩:=Hl h h0 B0 D0 hM hr he a0 O hq ax;obtain⟨a,ea⟩:=Zn e.aw;rw[<-ea] at ba bb hq;have HA:=ao ea;clear h h0 B0 D0 hM hr he a0 ax
 go_enter Tryz.func43,Tryz.ntmps43
 go_upto_region 1 with(fail)
 rw[<-J,<-O,<-ea];clear J O ea;go_wp2_with fail;refine Calls.mono (R:=fun en I=> ∃v,en= .returned (Iz v)/\∃Gn,jW I Gn R g P {m with S:=cutAt m.S x id aw} C/\Lv Gs w0 I/\∀j,Gn j->Gs j\/qO w0 I j) ?_ ?_
 ·by_cases hz:aw<1
  ·refine(LI C.s P m.S Gs R x k M r e id aw _ H0.h.st HM.h HR.h HE.h a5.h hk hz).mono ?_
   rintro en I⟨rfl,b1⟩;obtain rfl:aw=0:=ae;refine⟨_,rfl,Gs,?_,Lv.bL b1,fun j hj=> .inl hj⟩;rw[nS HM.h,bh.h.Sa,Cs HM.h];exact H0.h.below b1
  ·refine(vp C.s P m.S Gs R x k M r e id aw _ H0.h.st HM.h HR.h HE.h a5.h hk ⟨ae,HA.h▸hq.2⟩).mono ?_
   rintro en I⟨rfl,bp,L1⟩;exact⟨_,rfl,_,H0.h.state (S':=cutAt m.S x id aw) bp L1 (fun j hj=>hj) (fun i hs=>H0.h.su i ((Sub.cutAt _ _ _ _).stands hs)),L1,fun j hj=>hj⟩
 rintro en I⟨v,rfl,Gn,M1,L1,ay⟩;have D1:=bc.h.lv L1 (fun hg=>jE (H.h.gl _ hg) bf.h);have q1:=D1.cell 1;have q2:=D1.cell 2;have q3:Cz I go 3 (Iz a):=HA.h▸D1.cell 3;obtain⟨a6,a7,bt⟩:=fY M1 L1 ay;clear L1 M1 D1 ay a8;go_wp2_with fail;go_ret;have bE:=a7.h.size;have bH:=a2.h.size;have L:Lv (fun j=>j=C.ub\/Gs j) w I:=(Lv.bL a2.h).trans a7.h fun j hj=> .inl (.inr hj);unfold jh;rw[<-HA.h];refine⟨af _,some ⟨I.heap.size,0,none⟩,1,_,rfl,?_,a6.h.below (au (aa _ _) _),L.alloc _,fun j hj=>?_,fun b hb hg=>?_⟩
 ·exact cI (base:=w.heap.size) (size:=8) I #[Iz 5,Iz id,Iz (x:Int),Iz ((k:Int)+1),Iz r.1,Iz aw,Iz (a - aw),Iz 0] 1 ae (by unfold maxLen;omega) rfl
 ·rcases bt.h j hj with h1|h1
  ·exact .inl h1
  ·have h2:w0.heap.size<=j:=h1.1
   exact .inr ⟨ae,by have:=h1.2;simp;omega⟩
 ·have bQ:I.heap.size=b:=by injection hb
  have:=a6.h.gl b hg;omega
structure YQ (c:bN):Prop where
 side:c.side=1∨c.side=2
 t1:1≤c.time
 t3:c.time≤3
 q1:1≤c.aw
 q2:c.aw≤1000000
 l0:0≤c.least
 lq:c.least≤c.aw
 i1:1≤c.id
 i2:c.id≤1099511627776
 p1: -2000000≤c.ag
 p2:c.ag≤2000000
 n1:0≤c.inst
 n2:c.inst≤255
theorem FC (h:dx c=0) (hk:c.kind=1):YQ c:=by
 unfold dx wN at h
 by_cases h1:c.kind<1\/4<c.kind
 ·omega
 rw[if_neg h1] at h
 by_cases J:c.id<1\/1099511627776<c.id
 ·rw[if_pos J] at h;cases h
 rw[if_neg J,if_pos hk] at h
 by_cases O:c.side≠1/\c.side≠2
 ·rw[if_pos O] at h;cases h
 rw[if_neg O] at h
 by_cases h4:c.time<1\/3<c.time
 ·rw[if_pos h4] at h;cases h
 rw[if_neg h4] at h
 by_cases D:¬kL c.aw
 ·rw[if_pos D] at h;cases h
 rw[if_neg D] at h
 by_cases h6:c.least<0\/c.aw<c.least
 ·rw[if_pos h6] at h;cases h
 rw[if_neg h6] at h
 by_cases h7:c.ky≠[]/\Cd c.ky=false
 ·rw[if_pos h7] at h;cases h
 rw[if_neg h7] at h
 by_cases I:¬jg c.ag
 ·rw[if_pos I] at h;cases h
 rw[if_neg I] at h
 by_cases h9:c.inst<0\/255<c.inst
 ·rw[if_pos h9] at h;cases h
 unfold kL at D;unfold jg at I;exact⟨ae,ae,ae,ae,ae,ae,ae,ae,ae,ae,ae,ae,ae⟩
theorem PV {b:Nat} {n:Nat} (h:fR w b (sY u) n) {id:Int} (D:dZ id):
  (Instr.lookup 88 (.map (some b)) (Iz id) false).run Tryz.prog w= .ok (.bool (u id)) w:=by
 have I:(zeroValue 4).run Tryz.prog w= .ok (.bool false) w:=by kernel_rfl
 have:=h.look Tryz.underlying88 I D;rw[this];unfold sY
 by_cases hu:u id=true
 ·rw[if_pos hu,hu];rfl
 ·rw[if_neg hu,Bool.not_eq_true _|>.mp hu];rfl
theorem km (D a1 I a3 a4 J O a7:Int) (lb:List UInt8) (fy:Int) (w:World):Wz 38 #[.agg #[Iz D,Iz a1,Iz I,Iz a3,Iz a4,Iz J,Iz O,Iz a7, .string (str lb)],Iz fy] w fun e w'=> ∃A cp,e= .returned (.slice A 1 cp)/\lD w.heap.size w' A cp (mH a1 fy)/\Bz w w':=
 GI ⟨D,a1,I,a3,a4,J,O,a7,lb⟩ fy w
theorem NK (g:Nat) (P:PD) (m:Mk) (Gs R:Nat->Prop) (C:zt) (a0 ci:Int) (x k:Nat) (D cq cl I:Int) (lb:List UInt8) (w:World) (h:jW w Gs R g P m C) (hx:x<P.count) (hk:k<2) (hq:1<=cq/\cq<=1000000) (J:dZ ci) (hp:P.fy x D=0)
  (O:¬fI m.S ci) (ax:cK m.S<250) (ay:m.un<1000000) (hl:lb.length<=9223372036854775807):
  Wz 70 #[Pz g, .agg #[Iz a0,Iz ci,Iz (x:Int),Iz ((k:Int)+1),Iz D,Iz cq,Iz cl,Iz I, .string (str lb)]] w (ic w Gs R g P C (2+1503*cq.toNat) (iE P m ci x k D cq I)):=
 PU g P m Gs R C ⟨a0,ci,(x:Int),(k:Int)+1,D,cq,cl,I,lb⟩ x k w h rfl rfl hx hk hq J hp O ax ay hl
theorem Me (g:Nat) (P:PD) (m:Mk) (Gs R:Nat->Prop) (C:zt) (c:bN) (w:World) (h:jW w Gs R g P m C) (hr:dx c=0) (cf:c.kind=1) (eB:m.un<1000000) (hl:c.ky.length<=9223372036854775807):
  Wz 39 #[Pz g,c.val] w (ic w Gs R g P C (2+1503*c.aw.toNat) (lW P m c)):=by
 have hc:=FC hr cf;obtain⟨ck,ci,cn,cs,I,cq,cl,O,cb⟩:=c;obtain⟨hs,eC,eD,bE,bH,eE,eF,eG,eI,eJ,eK,eL,eM⟩:=hc;simp only at hs eC eD bE bH eE eF eG eI eJ eK eL eM cf hl;obtain⟨k,ek,cm⟩:∃k:Nat,cs=(k:Int)+1/\k<2:=⟨(cs - 1).toNat,by omega,by omega⟩;subst cf;subst ek;obtain⟨fy,b8⟩:=Zn (P.oY cn I);have b9:dZ ci:=by unfold dZ;omega
 obtain⟨res,a7⟩:=Zn (lW P m ⟨1,ci,cn,(k:Int)+1,I,cq,cl,O,cb⟩);rw[<-a7];obtain⟨w0,bQ⟩:=Zn (w.alloc (.cells (bN.cells ⟨1,ci,cn,(k:Int)+1,I,cq,cl,O,cb⟩) 35));obtain⟨gc,bR⟩:=Zn w.heap.size;have C0:kM w0 gc ⟨1,ci,cn,(k:Int)+1,I,cq,cl,O,cb⟩:=by rw[bQ,bR];exact kM.new w _
 have B0:=Zw bQ;have h0:=h.below B0;obtain⟨d0,d1,d2,d3,d4,d5,d6,d7,d8⟩:=C0.reads;obtain⟨m0,m1,m2,m3,m4,m5,m6,m7,m8,m9,ed,ax,eN⟩:=h0.b.cells;have J:g<w0.heap.size:=h0.b.D.lt;have cv:gc<w0.heap.size:=C0.lt;have st:∀{u:World} {b i:Nat} {v:Value},b<w0.heap.size->aR w0.drew u->Cz w0 b i v->Cz u b i v:=fun {u b i v} hb hu hv=>Yb hu hb hv;have e0:=fun u (hu:aR w0.drew u)=>st J hu m0;have e1:=fun u (hu:aR w0.drew u)=>st J hu m1;have e2:=fun u (hu:aR w0.drew u)=>st J hu m2;have e3:=fun u (hu:aR w0.drew u)=>st J hu m3;have e4:=fun u (hu:aR w0.drew u)=>st J hu m4;have e5:=fun u (hu:aR w0.drew u)=>st J hu m5;have e6:=fun u (hu:aR w0.drew u)=>st J hu m6;have e7:=fun u (hu:aR w0.drew u)=>st J hu m7;have e8:=fun u (hu:aR w0.drew u)=>st J hu m8;have e9:=fun u (hu:aR w0.drew u)=>st J hu m9;have eW:=fun u (hu:aR w0.drew u)=>st J hu ed;have o2:=fun u (hu:aR w0.drew u)=>st cv hu d2;have o4:=fun u (hu:aR w0.drew u)=>st cv hu d4;obtain⟨H,H0,eO,eP,HW,a8,ef,eY⟩:=Dw h h0 B0 C0 b8 a7 b9 bR;clear h h0 B0 C0 d0 d1 d2 d3 d4 d5 d6 d7 d8 m0 m1 m2 m3 m4 m5 m6 m7 m8 m9 ed ax eN st J cv a7 b9 hr b8;rw[show(bN.val ⟨1,ci,cn,(k:Int)+1,I,cq,cl,O,cb⟩)= .agg (bN.cells ⟨1,ci,cn,(k:Int)+1,I,cq,cl,O,cb⟩) from rfl]
 go_enter Tryz.func39,Tryz.ntmps39
 go_upto_region 1 with(fail)
 rw[<-bQ,<-bR];clear bQ bR;refine Zg [8] [0,1,2,3,4,5,6,7,8,9] ?_;refine Yt ?_;refine Ym fun K hK=>?_;refine(pQ P C.ma C.mc C.sa C.sc cn I _ H0.b.pd.drew).mono ?_;rintro e w1⟨rfl,b1⟩;rw[<-HW.h];have B1:Bz w0 w1:=(aS (aa _ _)).trans b1;refine Yo hK (b1) ?_;refine Yt ?_;refine aT ?_;have cF:=ao (dW eO B1);have M1:=H0.h.below B1;have C1:=eP.h.below B1;obtain⟨bU,cH⟩:=dF M1 C1;obtain⟨d0,d1,d2,d3,d4,d5,d6,d7,d8⟩:=C1.reads;clear b1 B1 M1 C1
 by_cases a2:fy=0
 ·have i1:(fy !=0)=false:=by simp[a2]
  have eg:¬(cn<0\/(P.count:Int)<=cn):=fun hc=>by
   have:=HW.h;rw[a2] at this;unfold PD.oY at this;rw[if_pos hc] at this
   cases this
  obtain⟨x,ex⟩:∃x:Nat,cn=(x:Int):=⟨cn.toNat,by omega⟩;have hx:x<P.count:=by omega
  have ei:P.fy x I=0:=by
   have:=HW.h;unfold PD.oY at this;rw[if_neg eg,a2,ex] at this;exact this.symm
  obtain⟨least,el⟩:=Zn (if O=3 then cq else cl);have ay:res=(if m.used ci=true then (m,mH ci 25)
   else if 250<=cK m.S then (m,mH ci 13)
   else if 0<least/\ng P m.S x k I cq<least then (m,mH ci 28)
   else if O=1/\lV P m.S x k I cq=true then (m,mH ci 23)
   else iE P m ci x k I cq O):=by
   rw[a8.h];unfold lW;have eQ:((k:Int)+1 - 1).toNat=k:=by omega
   have eR:cn.toNat=x:=by omega
   simp only[eQ,eR,<-el];rw[if_neg (by rw[<-HW.h,a2];simp)]
  subst ex;obtain⟨ej,eS,eo,ba⟩:=mh a2 ei el ay;clear a2 eg ei el ay HW a8
  go_upto_if 25 with(fail)
  go_cut [6] (fun v wx=>v= Iz least/\w1=wx)
  case first=>
   by_cases ht:O=3
   ·have i2:(O==3)=true:=by simp[ht]
    have cQ:least=cq:=by rw[eo.h,if_pos ht]
    clear ht;subst cQ;go_wp2_with fail;go_meet;exact⟨rfl,rfl⟩
   ·have i2:(O==3)=false:=by simpa using ht
    have cQ:least=cl:=by rw[eo.h,if_neg ht]
    clear ht;subst cQ;go_wp2_with fail;go_meet;exact⟨rfl,rfl⟩
  obtain⟨rfl,rfl⟩:=hcut;have M1:=bU.h;have C1:=cH.h;have eT:∀u,aR w1.drew u->Cz u g 12 (.map (some C.ub)):=fun u hu=>Yb hu M1.b.D.lt (M1.b.D.cell 12);have k1:∀u,aR w1.drew u->Cz u gc 1 (Iz ci):=fun u hu=>Yb hu C1.lt (C1.cell 1);have lk:∀u,aR w1.drew u->(Instr.lookup 88 (.map (some C.ub)) (Iz ci) false).run Tryz.prog u= .ok (.bool (m.used ci)) u:=fun u hu=>PV (M1.us.below ((aS (aa _ _)).trans hu)) ef;obtain⟨ub,cS⟩:=Zn (m.used ci);rw[<-cS] at lk;have cT:=ao cS;clear M1 C1 cS d0 d1 d2 d3 d4 d5 d6 d7 d8
  go_upto_region 7 with(fail)
  refine Zg [] [0,1,2,3,4,5,6,7] ?_;refine Yt ?_;refine aT ?_;clear eT k1 lk;obtain⟨w2,cX⟩:=Zn w1.drew;rw[<-cX];have b2:Bz w1 w2:=by rw[cX];exact aS (aa _ _)
  have M2:=bU.h.below b2;have C2:=cH.h.below b2;obtain⟨bV,a5,c0⟩:=fY (dW cF b2) M2 C2;obtain⟨d0,d1,d2,d3,d4,d5,d6,d7,d8⟩:=C2.reads;clear cX b2 bU cH cF C2
  cases ub with
  |true=>
   clear M2;go_wp2_with fail;refine(km 1 ci (x:Int) ((k:Int)+1) I cq cl O cb 25 w2).mono ?_;rintro e w3⟨A,cp,rfl,own,b3⟩;go_wp2_with fail;go_ret;rw[ba.h,if_pos cT.h.symm];exact(ic.same a5 rfl own b3).before bV (by show 1<=_;omega)
  |false=>
   have ep:¬m.used ci=true:=by rw[<-cT.h];simp
   have ax:Cz w2 g 11 (Pz C.s):=M2.b.D.cell 11;have bb:=ao ep;clear ep M2 cT;go_wp2_with fail;refine(LN C.s P m.S Gs R w2 a5.st).mono ?_;rintro e u⟨rfl,rfl⟩;obtain⟨dc,dp⟩:=Zn (cK m.S);rw[<-dp];have bc:=ao dp;clear dp
   by_cases a6:250<=dc
   ·have i3:(250:Int)<=dc:=by omega
    have a0:=ao a6;clear a6;go_wp2_with fail;refine(km 1 ci (x:Int) ((k:Int)+1) I cq cl O cb 13 w2).mono ?_;rintro e w3⟨A,cp,rfl,own,b3⟩;go_wp2_with fail;go_ret;rw[ba.h,if_neg bb.h,if_pos (by rw[<-bc.h];exact a0)];exact(ic.same a5 rfl own b3).before bV (by show 1<=_;omega)
   ·have i3:¬(250:Int)<=dc:=by omega
    have a0:=ao a6;clear a6;obtain⟨z,ez⟩:=Zn (decide (0<least/\ng P m.S x k I cq<least));have HZ:=ao ez;clear ez
    go_upto_region 11 with(fail)
    go_cut [47] (fun v wx=>v= .bool z/\Bz w2 wx)
    case first=>
     by_cases er:0<least
     ·have C2:=c0.h
      have dS:∀u,aR w2.drew u->Cz u g 11 (Pz C.s):=fun u hu=>Yb hu a5.b.D.lt ax;have q2:∀u,aR w2.drew u->Cz u gc 2 (Iz (x:Int)):=fun u hu=>Yb hu C2.lt (C2.cell 2);have q3:∀u,aR w2.drew u->Cz u gc 3 (Iz ((k:Int)+1)):=fun u hu=>Yb hu C2.lt (C2.cell 3);have q4:∀u,aR w2.drew u->Cz u gc 4 (Iz I):=fun u hu=>Yb hu C2.lt (C2.cell 4);have q5:∀u,aR w2.drew u->Cz u gc 5 (Iz cq):=fun u hu=>Yb hu C2.lt (C2.cell 5);have hz:z=decide (ng P m.S x k I cq<least):=by rw[HZ.h];simp[er]
      have eU:=ao hz;obtain⟨cd,et⟩:=Zn (ng P m.S x k I cq);have eu:=ao et;clear C2 ax d0 d1 d2 d3 d4 d5 d6 d7 d8 hz et;refine Zg [15] [0,1,2,3,4,5,6,7,8,9,10,11,12,13,14,16,15,17,18,19] ?_;refine Yt ?_;clear dS q2 q3 q4 q5;refine Ym fun K hK=>?_;refine(LY C.s P m.S Gs R x k ((k:Int)+1) I cq _ a5.st.drew hx cm rfl ⟨bE,bH⟩).mono ?_;rintro e w3⟨rfl,b3⟩;rw[<-eu.h];refine Yo hK (b3) ?_;have B3:Bz w2 w3:=(aS (aa _ w2)).trans b3;refine Yt ?_;refine aT ?_;have bf:=ao B3;clear b3 B3;go_wp2_with fail;go_meet;exact⟨by rw[eU.h,<-eu.h],bf⟩
     ·have hz:z=false:=by rw[HZ.h];simp[er]
      clear ax d0 d1 d2 d3 d4 d5 d6 d7 d8;subst hz;refine Zg [15] [0,1,2,3,4,5,6,7,8,9,10,11,12,13,14,16,15,17,18,19] ?_;refine Yt ?_;refine aT ?_;go_wp2_with fail;go_meet;exact⟨rfl,aS (aa _ _)⟩
    obtain⟨rfl,b3⟩:=hcut;obtain⟨w3,rfl⟩:=Zn wc;have M3:=a5.h.below b3;have C3:=c0.h.below b3;obtain⟨bh,dT,bf⟩:=fY M3 C3 (dW bV b3);obtain⟨d0,d1,d2,d3,d4,d5,d6,d7,d8⟩:=C3.reads;have ax:Cz w3 g 11 (Pz C.s):=M3.b.D.cell 11;clear M3 C3 b3 a5 c0 bV;rcases(cG z).symm with e1|e1
    ·subst e1
     have bp:¬(0<least/\ng P m.S x k I cq<least):=by simpa using HZ.h.symm
     obtain⟨y,ey⟩:=Zn (decide (O=1/\lV P m.S x k I cq=true));obtain⟨b0,HY⟩:=dF bp ey;clear bp ey HZ
     go_upto_region 13 with(fail)
     go_cut [69] (fun v wx=>v= .bool y/\Bz w3 wx)
     case first=>
      have C3:=dT.h;have q7:∀u,aR w3.drew u->Cz u gc 7 (Iz O):=fun u hu=>Yb hu C3.lt (C3.cell 7)
      by_cases ht:O=1
      ·have dS:∀u,aR w3.drew u->Cz u g 11 (Pz C.s):=fun u hu=>Yb hu bh.b.D.lt ax
       have q2:∀u,aR w3.drew u->Cz u gc 2 (Iz (x:Int)):=fun u hu=>Yb hu C3.lt (C3.cell 2);have q3:∀u,aR w3.drew u->Cz u gc 3 (Iz ((k:Int)+1)):=fun u hu=>Yb hu C3.lt (C3.cell 3);have q4:∀u,aR w3.drew u->Cz u gc 4 (Iz I):=fun u hu=>Yb hu C3.lt (C3.cell 4);have q5:∀u,aR w3.drew u->Cz u gc 5 (Iz cq):=fun u hu=>Yb hu C3.lt (C3.cell 5);have hy:y=lV P m.S x k I cq:=by rw[HY.h];simp[ht]
       have i5:(O==1)=true:=by simp[ht]
       have eV:=ao hy;obtain⟨sk,ew⟩:=Zn (lV P m.S x k I cq);have eA:=ao ew;clear C3 ax d0 d1 d2 d3 d4 d5 d6 d7 d8 hy ew ht;refine Zg [16] [0,1,2,3,4,5,6,7,8,9,10,11,12,13,14,15,16,17,18] ?_;refine Yt ?_;clear dS q2 q3 q4 q5 q7;refine Ym fun K hK=>?_;refine(CK C.s P m.S Gs R x k ((k:Int)+1) I cq _ bh.st.drew hx cm rfl ⟨bE,bH⟩).mono ?_;rintro e w4⟨rfl,b4⟩;rw[<-eA.h];refine Yo hK (b4) ?_;have B4:Bz w3 w4:=(aS (aa _ w3)).trans b4;refine Yt ?_;refine aT ?_;have b7:=ao B4;clear b4 B4;go_wp2_with fail;go_meet;exact⟨by rw[eV.h,<-eA.h],b7⟩
      ·have hy:y=false:=by rw[HY.h];simp[ht]
       have i5:(O==1)=false:=by simpa using ht
       clear ax d0 d1 d2 d3 d4 d5 d6 d7 d8 C3 ht;subst hy;refine Zg [16] [0,1,2,3,4,5,6,7,8,9,10,11,12,13,14,15,16,17,18] ?_;refine Yt ?_;refine aT ?_;go_wp2_with fail;go_meet;exact⟨rfl,aS (aa _ _)⟩
     obtain⟨rfl,b4⟩:=hcut;obtain⟨w4,rfl⟩:=Zn wc;have M4:=bh.h.below b4;have C4:=dT.h.below b4;obtain⟨d9,b7⟩:=dF M4 (dW bf b4);obtain⟨d0,d1,d2,d3,d4,d5,d6,d7,d8⟩:=C4.reads;clear M4 C4 b4 bh dT bf ax;rcases(cG y).symm with e2|e2
     ·subst e2
      have bt:¬(O=1/\lV P m.S x k I cq=true):=by simpa using HY.h.symm
      have ea:=ao bt;clear bt HY;go_wp2_with fail;refine(NK g P m Gs R C 1 ci x k I cq cl O cb w4 d9 hx cm ⟨bE,bH⟩ ef eS (fun hs=>bb (d9.su ci hs)) (by have:=a0.h;have:=bc.h;omega) eB hl).mono ?_;rintro e w5⟨eb,A,cp,Gs',rfl,ay⟩;go_wp2_with fail;go_ret;rw[ba.h,if_neg bb.h,if_neg (by rw[<-bc.h];exact a0),if_neg b0,if_neg ea];exact ic.before b7 ⟨eb,A,cp,Gs',rfl,ay⟩ (af _)
     ·subst e2
      have bt:O=1/\lV P m.S x k I cq=true:=by simpa using HY.h.symm
      have ea:=ao bt;clear bt HY;go_wp2_with fail;refine(km 1 ci (x:Int) ((k:Int)+1) I cq cl O cb 23 w4).mono ?_;rintro e w5⟨A,cp,rfl,own,b5⟩;go_wp2_with fail;go_ret;rw[ba.h,if_neg bb.h,if_neg (by rw[<-bc.h];exact a0.h),if_neg b0.h,if_pos ea.h];exact(ic.same d9.h rfl own b5).before b7.h (by show 1<=_;omega)
    ·subst e1
     have bp:0<least/\ng P m.S x k I cq<least:=by simpa using HZ.h.symm
     have b0:=ao bp;clear bp HZ;go_wp2_with fail;refine(km 1 ci (x:Int) ((k:Int)+1) I cq cl O cb 28 w3).mono ?_;rintro e w4⟨A,cp,rfl,own,b4⟩;go_wp2_with fail;go_ret;rw[ba.h,if_neg bb.h,if_neg (by rw[<-bc.h];exact a0.h),if_pos b0.h];exact(ic.same bh.h rfl own b4).before bf.h (by show 1<=_;omega)
 ·have i1:(fy !=0)=true:=by simpa using a2
  have ej:=ao a2;clear a2;go_wp2_with fail;refine(km 1 ci cn ((k:Int)+1) I cq cl O cb fy w1).mono ?_;rintro e w2⟨A,cp,rfl,own,b2⟩;go_wp2_with fail;go_ret;have ay:res=(m,mH ci fy):=by
   rw[a8.h];unfold lW;simp only;rw[if_pos (by rw[<-HW.h];exact ej.h),<-HW.h]
  rw[ay];exact(ic.same bU.h rfl own b2).before cF.h (by show 1<=_;omega)
theorem PW (s:Nat) (P:PD) (S:Sm) (G R:Nat->Prop) (w:World) (h:dR w G R s P S):
  Wz 56 #[Pz s] w fun e w'=> ∃s' D R',e= .returned (Pz s')/\dR w' D R' s' P S/\(∀j,D j->w.heap.size<=j)/\Bz w w':=
 (yO s P S G R w h).mono fun e w' ⟨s',I,J,O⟩=>⟨s',_,_,I,J,fun j hj=>hj.1,O⟩
theorem UF (g:Nat) (P:PD) (m:Mk) (Gs R:Nat->Prop) (C:zt) (ci:Int) (x k:Nat) (D cq:Int) (w:World) (h:jW w Gs R g P m C) (hx:x<P.count) (hk:k<2) (hq:1<=cq/\cq<=1000000) (I:dZ ci) (hp:P.fy x D=0)
  (J:¬fI m.S ci) (O:cK m.S<250) (ax:m.un<1000000):
  Wz 70 #[Pz g, .agg #[Iz 1,Iz ci,Iz (x:Int),Iz ((k:Int)+1),Iz D,Iz cq,Iz 0,Iz 1, .string ⟨#[]⟩]] w (ic w Gs R g P C (2+1503*cq.toNat) (iE P m ci x k D cq 1)):=
 NK g P m Gs R C 1 ci x k D cq 0 1 [] w h hx hk hq I hp J O ax bT
theorem JJ (g:Nat) (P:PD) (m:Mk) (Gs R:Nat->Prop) (C:zt) (c:bN) (x k:Nat) (M:BM) (r:iQ) (e:dn) (w:World) (h:jW w Gs R g P m C) (hM:m.S[x]?=some M) (hr:r∈M.side k) (he:e∈r.2) (cH:e.id=c.id) (hk:k<2)
  (hx:x<P.count) (hq:1<=c.aw/\c.aw<=1000000) (a8:dZ c.id) (eS:m.un<1000000) (hl:c.ky.length<=9223372036854775807):
  Wz 41 #[Pz g,c.val,Iz (x:Int),JI c.id k r.1 e] w (ic w Gs R g P C (3+1503*c.aw.toNat) (replaceM P m c x k r.1 e)):=by
 unfold JI;obtain⟨ck,ci,cn,cs,I,cq,cl,ct,cb⟩:=c;simp only at cH hq a8 hl⊢;obtain⟨p,ep⟩:=Zn r.1;obtain⟨a,ea⟩:=Zn e.aw;obtain⟨tp,cQ⟩:=Zn e.top;obtain⟨fy,a0⟩:=Zn (P.fy x I);obtain⟨res,ba⟩:=Zn (replaceM P m ⟨ck,ci,cn,cs,I,cq,cl,ct,cb⟩ x k r.1 e);have b8:res=if fy≠0 then (m,mH ci fy) else if I=p/\cq<=a then jh m ci (a - cq) x k p e else if lV P (cutAt m.S x ci a) x k I cq=true then (m,mH ci 23) else ((iE P (dG m ci x k p e).1 ci x k I cq 1).1,(dG m ci x k p e).2++(iE P (dG m ci x k p e).1 ci x k I cq 1).2):=by
  rw[ba,a0,ep,ea];rfl
 have eg:P.oY (x:Int) I=fy:=by
  unfold PD.oY;rw[if_neg (by omega),a0];rfl
 rw[<-ba];obtain⟨eT,eU,_⟩:=(h.st.JH hM).ok e (fX hr he);rw[<-ea] at eT eU;obtain⟨w0,bb⟩:=Zn ((w.alloc (.cells (bN.cells ⟨ck,ci,cn,cs,I,cq,cl,ct,cb⟩) 35)).alloc (.cells #[Iz ci,Iz ((k:Int)+1),Iz p,Iz a, .bool tp] 81));obtain⟨gc,bc⟩:=Zn w.heap.size;obtain⟨go,bU⟩:=Zn (gc+1);have C0:kM w0 gc ⟨ck,ci,cn,cs,I,cq,cl,ct,cb⟩:=by rw[bb,bc];exact(kM.new w _).below (au (aa _ _) _)
 have D0:aE w0 go 81 #[Iz ci,Iz ((k:Int)+1),Iz p,Iz a, .bool tp]:=by
  rw[bb,bU,bc];have:=heap_alloc_new (w.alloc (.cells (bN.cells ⟨ck,ci,cn,cs,I,cq,cl,ct,cb⟩) 35)) (.cells #[Iz ci,Iz ((k:Int)+1),Iz p,Iz a, .bool tp] 81);rw[cw] at this;exact this
 have B0:Bz w w0:=by rw[bb];exact au (au (aa _ _) _) _
 have h0:=h.below B0;obtain⟨d0,d1,d2,d3,d4,d5,d6,d7,d8⟩:=C0.reads;obtain⟨m0,m1,m2,m3,m4,m5,m6,m7,m8,m9,ei,cS,eV⟩:=h0.b.cells;have J:g<w0.heap.size:=h0.b.D.lt;have ej:gc<w0.heap.size:=C0.lt;have st:∀{u:World} {b i:Nat} {v:Value},b<w0.heap.size->aR w0.drew u->Cz w0 b i v->Cz u b i v:=fun {u b i v} hb hu hv=>Yb hu hb hv;have e0:=fun u (hu:aR w0.drew u)=>st J hu m0;have e1:=fun u (hu:aR w0.drew u)=>st J hu m1;have e2:=fun u (hu:aR w0.drew u)=>st J hu m2;have e3:=fun u (hu:aR w0.drew u)=>st J hu m3;have e4:=fun u (hu:aR w0.drew u)=>st J hu m4;have e5:=fun u (hu:aR w0.drew u)=>st J hu m5;have e6:=fun u (hu:aR w0.drew u)=>st J hu m6;have e7:=fun u (hu:aR w0.drew u)=>st J hu m7;have e8:=fun u (hu:aR w0.drew u)=>st J hu m8;have e9:=fun u (hu:aR w0.drew u)=>st J hu m9;have eW:=fun u (hu:aR w0.drew u)=>st J hu ei;have o4:=fun u (hu:aR w0.drew u)=>st ej hu d4;obtain⟨H,H0,eY,eZ,fa,HW,bV,bf,ff,fi,fk,HP,HA,ek,HM,HR,HE,fq⟩:=TN h h0 B0 C0 D0 eg b8 cH a8 bc bU ep ea cQ hM hr he a0;rw[<-ep,<-ea,<-cQ];clear h h0 B0 C0 D0 d0 d1 d2 d3 d4 d5 d6 d7 d8 m0 m1 m2 m3 m4 m5 m6 m7 m8 m9 ei cS eV st J ej ba a8 hr eg b8 cH ep ea cQ hM he a0;rw[show(bN.val ⟨ck,ci,cn,cs,I,cq,cl,ct,cb⟩)= .agg (bN.cells ⟨ck,ci,cn,cs,I,cq,cl,ct,cb⟩) from rfl]
 go_enter Tryz.func41,Tryz.ntmps41
 go_upto_region 1 with(fail)
 rw[<-bb,<-bc,<-bU];clear bb bc bU;refine Zg [7] [0,1,2,3,4,5,6,7,8] ?_;refine Yt ?_;clear e0 e1 e2 e3 e4 e5 e6 e7 e8 e9 eW o4;refine Ym fun K hK=>?_;refine(pQ P C.ma C.mc C.sa C.sc (x:Int) I _ H0.h.b.pd.drew).mono ?_;rintro en w1⟨rfl,b1⟩;rw[HW.h];have B1:Bz w0 w1:=(aS (aa _ _)).trans b1;refine Yo hK (b1) ?_;refine Yt ?_;refine aT ?_;have cT:=ao (dW eY.h B1);have M1:=H0.h.below B1;have C1:=eZ.h.below B1;have D1:=fa.h.below B1;obtain⟨bh,cX,c0⟩:=fY M1 C1 D1;obtain⟨d0,d1,d2,d3,d4,d5,d6,d7,d8⟩:=C1.reads;have q0:Cz w1 go 0 (Iz ci):=D1.cell 0;have q1:Cz w1 go 1 (Iz ((k:Int)+1)):=D1.cell 1;have q2:Cz w1 go 2 (Iz p):=D1.cell 2;have q3:Cz w1 go 3 (Iz a):=D1.cell 3;have q4:Cz w1 go 4 (.bool tp):=D1.cell 4;clear b1 B1 M1 C1 D1
 by_cases a5:fy=0
 ·have i1:(fy !=0)=false:=by simp[a5]
  have a6:=ao a5;clear a5;obtain⟨z,ez⟩:=Zn (decide (I=p/\cq<=a));have HZ:=ao ez;clear ez
  go_upto_region 4 with(fail)
  go_cut [36] (fun v wx=>v= .bool z/\w1=wx)
  case first=>
   by_cases a7:I=p
   ·have i2:(I==p)=true:=by simp[a7]
    have hz:z=decide (cq<=a):=by rw[HZ.h];simp[a7]
    have fx:=ao hz;clear a7 hz;go_wp2_with fail;go_meet;exact⟨by rw[fx.h],rfl⟩
   ·have i2:(I==p)=false:=by simpa using a7
    have hz:z=false:=by rw[HZ.h];simp[a7]
    clear a7;subst hz;go_wp2_with fail;go_meet;exact⟨rfl,rfl⟩
  obtain⟨rfl,rfl⟩:=hcut;rcases(cG z).symm with hz|hz
  ·subst hz
   have ax:¬(I=p/\cq<=a):=by simpa using HZ.h.symm
   have cS:Cz w1 g 11 (Pz C.s):=bh.h.b.D.cell 11;have a2:=ao ax;clear ax HZ;go_wp2_with fail;refine(PW C.s P m.S Gs R w1 bh.h.st).mono ?_;rintro en w2⟨s',G',R',rfl,el,eo,b2⟩;obtain⟨er,et,dc⟩:=fY el eo b2;have C2:=cX.h.below b2;have D2:=c0.h.below b2;clear d0 d1 d2 d3 d4 d5 d6 d7 d8 q0 q1 q2 q3 q4 el eo b2 cS;obtain⟨d0,d1,d2,d3,d4,d5,d6,d7,d8⟩:=C2.reads;have q3:Cz w2 go 3 (Iz a):=D2.cell 3;clear C2 D2;go_wp2_with fail;refine(vp s' P m.S G' R' x k M r e ci a w2 er.h HM.h HR.h HE.h bf.h hk ⟨by omega,by rw[<-HA.h];exact cM _⟩).mono ?_;rintro en w3⟨rfl,eu,L3⟩;have B3:Bz w1 w3:=dc.h.trans (L3.below et.h dc.h.size);have C3:=cX.h.below B3;have D3:=c0.h.below B3;obtain⟨ew,eA⟩:=dF eu B3;clear d0 d1 d2 d3 d4 d5 d6 d7 d8 q3 eu L3;obtain⟨d0,d1,d2,d3,d4,d5,d6,d7,d8⟩:=C3.reads;have q1:Cz w3 go 1 (Iz ((k:Int)+1)):=D3.cell 1;obtain⟨y,ey⟩:=Zn (lV P (cutAt m.S x ci a) x k I cq);have HY:=ao ey;clear C3 D3 B3 ey;go_wp2_with fail;refine(CK s' P _ _ _ x k ((k:Int)+1) I cq w3 ew.h hx hk rfl hq).mono ?_;rw[<-HY.h];rintro en w4⟨rfl,b4⟩;have B4:Bz w1 w4:=dW eA.h b4;have M4:=bh.h.below B4;have C4:=cX.h.below B4;have D4:=c0.h.below B4;obtain⟨eB,eC,fz,dp⟩:=mh M4 C4 D4 (dW cT.h B4);clear d0 d1 d2 d3 d4 d5 d6 d7 d8 q1 b4 er et dc ew eA M4 B4;obtain⟨d0,d1,d2,d3,d4,d5,d6,d7,d8⟩:=C4.reads;have q0:Cz w4 go 0 (Iz ci):=D4.cell 0;have q1:Cz w4 go 1 (Iz ((k:Int)+1)):=D4.cell 1;have q2:Cz w4 go 2 (Iz p):=D4.cell 2;have q3:Cz w4 go 3 (Iz a):=D4.cell 3;have q4:Cz w4 go 4 (.bool tp):=D4.cell 4;clear C4 D4
   cases y with
   |true=>
    go_wp2_with fail;refine(km ck ci cn cs I cq cl ct cb 23 w4).mono ?_;rintro en w5⟨A,cp,rfl,own,b5⟩;go_wp2_with fail;go_ret;rw[bV.h,if_neg (by rw[a6.h];simp),if_neg a2.h,if_pos HY.h.symm];exact(ic.same eB.h rfl own b5).before dp.h (by show 1<=_;omega)
   |false=>
    go_wp2_with fail;refine(Calls.mono (R:=ic w4 Gs R g P C 1 (dG m ci x k p e)) ?_ ?_)
    ·have:=CN g P m Gs R C x k M r e ci w4 eB.h HM.h HR.h HE.h bf.h hk
     unfold JI at this;rw[<-HP.h,<-HA.h,<-ek.h] at this;exact this
    rintro en w5⟨-,A5,dS,fH,rfl,b9,M5,L5,cd,bp⟩;rw[show(dG m ci x k p e).2.length=1 from rfl] at bp⊢;have dT:∀j,w.heap.size<=j->¬(j=C.ub\/Gs j):=fun j hj hF=>by
     rcases hF with e'|e'
     ·have:=H.h.us.lt;omega
     ·have:=H.h.gl j e';omega
    have eD:w.heap.size<=gc:=bu fi.h.symm;have C5:kM w5 gc ⟨ck,ci,cn,cs,I,cq,cl,ct,cb⟩:=(L5.block gc eC.h.lt (dT gc eD)).trans eC.h;have D5:=fz.h.lv L5 (dT go (by have:=fk.h;omega));obtain⟨eE,fT,d9,cf,cm⟩:=rU b9 M5 L5 cd bp;clear d0 d1 d2 d3 d4 d5 d6 d7 d8 q0 q1 q2 q3 q4 b9 M5 L5 cd bp dT eD;obtain⟨d0,d1,d2,d3,d4,d5,d6,d7,d8⟩:=C5.reads;have q1:Cz w5 go 1 (Iz ((k:Int)+1)):=D5.cell 1;have hcut:=UE H.h.st HM.h (fX HR.h HE.h);have bt:¬fI (dG m ci x k p e).1.S ci:=by
     have:=hcut.1;rw[bf.h] at this;exact this
    have bE:cK (dG m ci x k p e).1.S<250:=by
     have h1:=hcut.2;rw[bf.h] at h1;have h2:=H.h.st.cnt;have h3:(dG m ci x k p e).1.S=cutAt m.S x ci e.aw:=rfl;rw[h3];omega
    obtain⟨eF,eG⟩:=dF bt bE;clear hcut bt bE C5 D5;go_wp2_with fail;refine(UF g P (dG m ci x k p e).1 fH R C ci x k I cq w5 fT.h hx hk hq ff.h (fq.h.symm.trans a6.h) eF.h eG.h eS).mono ?_;obtain⟨eM,b0⟩:=Zn (iE P (dG m ci x k p e).1 ci x k I cq 1);rw[<-b0];have f0:=ao b0;have eI:eM.2≠[]:=by rw[b0];unfold iE;simp only;repeat' split<;>simp
    have f1:=ao eI;clear b0 eI;rintro en w6⟨h6,A6,f2,eJ,rfl,cv,M6,L6,bH,bQ⟩;obtain⟨n6,eb⟩:=Zn eM.2.length;rw[<-eb] at h6 bQ⊢;have b7:∀b,(Value.slice A5 1 dS).ownBlock=some b->w4.heap.size<=b/\b<w5.heap.size/\¬eJ b/\b≠C.ub/\b≠g/\¬R b:=fun b hb=>by
     have h1:=eE.h.lt b hb;have h2:=cm.h b hb;have h3:=dp.h.size;refine⟨h1.1,h1.2,fun hg=>?_,fun e'=>?_,fun e'=>?_,fun e'=>?_⟩
     ·rcases bH b hg with h4|h4
      ·exact h2 h4
      ·have:=h4.1;omega
     ·have:=H.h.us.lt;omega
     ·have:=H.h.b.D.lt;omega
     ·have:=H.h.rl b e';omega
    have bR:w6.ownsRow w4.heap.size 40 8 (.slice A5 1 dS) 1 (fC (dG m ci x k p e).2):=aX eE.h fun b hb=>L6.block b (b7 b hb).2.1 fun hF=>by
     rcases hF with e'|e'
     ·exact(b7 b hb).2.2.2.1 e'
     ·exact cm.h b hb e'
    have eK:Cells w6 A6 (fC eM.2):=dP.O cv;have eL:w4.heap.size<=w6.heap.size:=aF d9.h.size L6.size;obtain⟨f3,f4,eN,eO,eP,f9,ed,eQ,f5,f6⟩:=QM bR eK M6 L6 bH bQ b7 eb eL h6;clear cv bR eK M6 L6 bH bQ b7 eb d0 d1 d2 d3 d4 d5 d6 d7 d8 q1 eL
    go_wp2_with (at_builtin
                 refine kS yP f3.h (A:=A6) (m:=n6) (c:=f2) (news:=fC eM.2) rfl _ _ rfl rfl rfl (by rw[iL,eQ.h]) (by intro h0;have h1:=iL eM.2;rw[h0] at h1;simp at h1;exact f1.h (aP (by omega))) f4.h (x9 eM.2) (by omega) f5.h (1+n6) _ rfl rfl ?_;intro A7 c7 w7 cF;have eR:=ao cF;clear cF)
    go_ret;have ef:=eR.h;have f7:res=(eM.1,(dG m ci x k p e).2++eM.2):=by
     rw[bV.h,if_neg (by rw[a6.h];simp),if_neg a2.h,if_neg (by rw[<-HY.h];simp),<-f0.h]
    rw[f7];have ay:1+n6=((dG m ci x k p e).2++eM.2).length:=by rw[aC,eQ.h];rfl
    have L7:Lv (fun j=>(Value.slice A5 1 dS).ownBlock=some j) w6 w7:=Lv.dy ef.grown fun j hj=> .inl hj;have M7:=eN.h.lv L7 (fun j hj hb=>by
     obtain⟨_,_,h1,h2,h3,h4⟩:=ed.h j hb;rcases hj with e'|e'|e'|e'
     ·exact h3 e'
     ·exact h2 e'
     ·exact h1 e'
     ·exact h4 e')
    have LL:Lv (fun j=>j=C.ub\/Gs j) w4 w7:=(d9.h.trans eO.h (fun j hj=>by
     rcases hj with h1|h1
     ·exact .inl (.inl h1)
     ·rcases cf.h j h1 with h2|h2
      ·exact .inl (.inr h2)
      ·exact .inr h2.1)).trans L7 (fun j hj=> .inr (ed.h j hj).1)
    refine ic.before dp.h (B:=3+1503*cq.toNat) ⟨by show((dG m ci x k p e).2++eM.2).length<=_;rw[<-ay];have:=f6.h;omega,A7,c7,eJ,by rw[<-ay];rfl,?_,M7,LL,fun j hj=>?_,fun b hb hg=>?_⟩ (af _)
    ·rw[lD,<-ay,rJ]
     exact ef.own
    ·rcases eP.h j hj with h1|h1
     ·rcases cf.h j h1 with h2|h2
      ·exact .inl h2
      ·exact .inr ⟨h2.1,by have:=h2.2;have:=eO.h.size;have:=L7.size;omega⟩
     ·exact .inr ⟨by have:=h1.1;have:=d9.h.size;omega,by have:=h1.2;have:=L7.size;omega⟩
    ·rw[<-ay] at hb
     rcases ef.jV with h1|h1
     ·rw[h1] at hb;exact(ed.h b hb).2.2.1 hg
     ·rw[h1] at hb
      have gi:w6.heap.size=b:=by injection hb
      have:b<w6.heap.size:=eN.h.gl b hg;omega
  ·subst hz
   have ax:I=p/\cq<=a:=by simpa using HZ.h.symm
   have i3:cq<=a:=ax.2;have a2:=ao ax;clear ax HZ;go_wp2_with fail;refine(Calls.mono (R:=ic w1 Gs R g P C 1 (jh m ci (a - cq) x k p e)) ?_ ?_)
   ·have:=CO g P m Gs R C x k M r e ci (a - cq) w1 bh.h HM.h HR.h HE.h bf.h hk ⟨by omega,by rw[<-HA.h];omega⟩
    unfold JI at this;rw[<-HP.h,<-HA.h,<-ek.h] at this;exact this
   rintro en w2⟨h2,A,cp,Gs',rfl,f8⟩;go_wp2_with fail;go_ret;rw[bV.h,if_neg (by rw[a6.h];simp),if_pos a2.h];exact ic.before cT.h ⟨h2,A,cp,Gs',rfl,f8⟩ (by omega)
 ·have i1:(fy !=0)=true:=by simpa using a5
  have a6:=ao a5;clear a5;go_wp2_with fail;refine(km ck ci cn cs I cq cl ct cb fy w1).mono ?_;rintro en w2⟨A,cp,rfl,own,b2⟩;go_wp2_with fail;go_ret;rw[bV.h,if_pos a6.h];exact(ic.same bh.h rfl own b2).before cT.h (by show 1<=_;omega)
structure YR (c:bN):Prop where
 k2:2≤c.kind
 k4:c.kind≤4
 i1:1≤c.id
 i2:c.id≤1099511627776
 q:c.kind≠2→1≤c.aw∧c.aw≤1000000
theorem FD (h:dx c=0) (hk:c.kind≠1):YR c:=by
 unfold dx at h
 by_cases D:c.kind<1\/4<c.kind
 ·rw[if_pos D] at h;cases h
 rw[if_neg D] at h
 by_cases I:c.id<1\/1099511627776<c.id
 ·rw[if_pos I] at h;cases h
 rw[if_neg I,if_neg hk] at h
 by_cases J:c.kind≠2/\¬kL c.aw
 ·rw[if_pos J] at h;cases h
 refine⟨ae,ae,ae,ae,fun hq=>?_⟩;have:kL c.aw:=by
  by_cases O:kL c.aw
  ·exact O
  ·exact absurd ⟨hq,O⟩ J
 exact this
theorem SC (D a1 I a3 a4 J O a7:Int) (lb:List UInt8) (w:World) (hl:lb.length<=9223372036854775807):Wz 37 #[.agg #[Iz D,Iz a1,Iz I,Iz a3,Iz a4,Iz J,Iz O,Iz a7, .string (str lb)]] w fun e w'=>e= .returned (Iz (dx ⟨D,a1,I,a3,a4,J,O,a7,lb⟩:Nat))/\Bz w w':=
 nQ ⟨D,a1,I,a3,a4,J,O,a7,lb⟩ hl w
theorem SD (g:Nat) (P:PD) (m:Mk) (Gs R:Nat->Prop) (C:zt) (D a1 J a3 a4 I O a7:Int) (lb:List UInt8) (w:World) (h:jW w Gs R g P m C) (hr:dx ⟨D,a1,J,a3,a4,I,O,a7,lb⟩=0) (ax:D=1) (ay:m.un<1000000) (hl:lb.length<=9223372036854775807):
  Wz 39 #[Pz g, .agg #[Iz D,Iz a1,Iz J,Iz a3,Iz a4,Iz I,Iz O,Iz a7, .string (str lb)]] w (ic w Gs R g P C (2+1503*I.toNat) (lW P m ⟨D,a1,J,a3,a4,I,O,a7,lb⟩)):=
 Me g P m Gs R C ⟨D,a1,J,a3,a4,I,O,a7,lb⟩ w h hr ax ay hl
theorem PY (g:Nat) (P:PD) (m:Mk) (Gs R:Nat->Prop) (C:zt) (J a1 O a3 a4 D a6 a7:Int) (lb:List UInt8) (x k:Nat) (M:BM) (r:iQ) (e:dn) (s p q:Int) (tp:Bool) (w:World) (h:jW w Gs R g P m C) (hM:m.S[x]?=some M) (hr:r∈M.side k) (he:e∈r.2) (ax:e.id=a1) (hk:k<2)
  (hx:x<P.count) (hq:1<=D/\D<=1000000) (I:dZ a1) (ay:m.un<1000000) (hl:lb.length<=9223372036854775807) (hs:s=(k:Int)+1) (hp:p=r.1) (a8:q=e.aw) (ba:tp=e.top):
  Wz 41 #[Pz g, .agg #[Iz J,Iz a1,Iz O,Iz a3,Iz a4,Iz D,Iz a6,Iz a7, .string (str lb)],Iz (x:Int), .agg #[Iz a1,Iz s,Iz p,Iz q, .bool tp]] w (ic w Gs R g P C (3+1503*D.toNat) (replaceM P m ⟨J,a1,O,a3,a4,D,a6,a7,lb⟩ x k r.1 e)):=by
 subst hs hp a8 ba;exact JJ g P m Gs R C ⟨J,a1,O,a3,a4,D,a6,a7,lb⟩ x k M r e w h hM hr he ax hk hx hq I ay hl
theorem SE (g:Nat) (P:PD) (m:Mk) (Gs R:Nat->Prop) (C:zt) (x k:Nat) (M:BM) (r:iQ) (e:dn) (id s p q:Int) (tp:Bool) (w:World) (h:jW w Gs R g P m C) (O:m.S[x]?=some M) (hr:r∈M.side k) (he:e∈r.2) (D:e.id=id) (hk:k<2) (hs:s=(k:Int)+1) (hp:p=r.1) (I:q=e.aw) (J:tp=e.top):
  Wz 42 #[Pz g,Iz id,Iz (x:Int), .agg #[Iz id,Iz s,Iz p,Iz q, .bool tp]] w (ic w Gs R g P C 1 (dG m id x k r.1 e)):=by
 subst hs hp I J;exact CN g P m Gs R C x k M r e id w h O hr he D hk
theorem SF (g:Nat) (P:PD) (m:Mk) (Gs R:Nat->Prop) (C:zt) (x k:Nat) (M:BM) (r:iQ) (e:dn) (id aw s p q:Int) (tp:Bool) (w:World) (h:jW w Gs R g P m C) (O:m.S[x]?=some M) (hr:r∈M.side k) (he:e∈r.2) (D:e.id=id) (hk:k<2) (hq:0<=aw/\aw<=e.aw) (hs:s=(k:Int)+1) (hp:p=r.1) (I:q=e.aw) (J:tp=e.top):
  Wz 43 #[Pz g,Iz id,Iz aw,Iz (x:Int), .agg #[Iz id,Iz s,Iz p,Iz q, .bool tp]] w (ic w Gs R g P C 1 (jh m id aw x k r.1 e)):=by
 subst hs hp I J;exact CO g P m Gs R C x k M r e id aw w h O hr he D hk hq
def XU (w:World) (s:Nat) (id fi o0 o1 o2 o3:Int) (o4 fk:Bool):Prop:=
 ∀u,Bz w u→Wz 40 #[Pz s,Iz id] u fun e w'=>e= .returned (.tuple #[Iz fi, .agg #[Iz o0,Iz o1,Iz o2,Iz o3, .bool o4], .bool fk])∧Bz u w'
def UG (w wx:World) (g:Nat) (o0 o1 o2 o3:Int) (o4:Bool):Prop:=aE wx g 81 #[Iz o0,Iz o1,Iz o2,Iz o3, .bool o4]∧Bz w wx∧w.heap.size≤g
theorem NM (g:Nat) (P:PD) (m:Mk) (Gs R:Nat->Prop) (C:zt) (c:bN) (w:World) (h:jW w Gs R g P m C) (ea:m.un<1000000) (hl:c.ky.length<=9223372036854775807):
  Wz 16 #[Pz g,c.val] w (ic w Gs R g P C (3+1503*c.aw.toNat) (pC P m c)):=by
 obtain⟨O,ci,cn,cs,ax,cq,cl,ct,cb⟩:=c;simp only at hl⊢;obtain⟨res,bf⟩:=Zn (pC P m ⟨O,ci,cn,cs,ax,cq,cl,ct,cb⟩);rw[<-bf];obtain⟨fy,cQ⟩:=Zn (dx ⟨O,ci,cn,cs,ax,cq,cl,ct,cb⟩:Nat);obtain⟨w0,b9⟩:=Zn (w.alloc (.cells (bN.cells ⟨O,ci,cn,cs,ax,cq,cl,ct,cb⟩) 35));obtain⟨gc,cS⟩:=Zn w.heap.size;have C0:kM w0 gc ⟨O,ci,cn,cs,ax,cq,cl,ct,cb⟩:=by rw[b9,cS];exact kM.new w _
 have B0:=Zw b9;obtain⟨d0,d1,d2,d3,d4,d5,d6,d7,d8⟩:=C0.reads;obtain⟨H0,eb,ed,cT,cd⟩:=rU (h.below B0) B0 C0 bf cQ;clear h B0 C0 bf cQ;rw[show(bN.val ⟨O,ci,cn,cs,ax,cq,cl,ct,cb⟩)= .agg (bN.cells ⟨O,ci,cn,cs,ax,cq,cl,ct,cb⟩) from rfl]
 go_enter Tryz.func16,Tryz.ntmps16
 go_upto_region 1 with(fail)
 rw[<-b9,<-cS];clear b9 cS;go_wp2_with fail;refine(SC O ci cn cs ax cq cl ct cb w0 hl).mono ?_;rw[<-cd.h];rintro en w1⟨rfl,b1⟩;obtain⟨cX,a7⟩:=dF (dW eb.h b1) (H0.h.below b1);have C1:=ed.h.below b1;have c0:=ao C1;clear d0 d1 d2 d3 d4 d5 d6 d7 d8 b1 H0 ed eb;obtain⟨d0,d1,d2,d3,d4,d5,d6,d7,d8⟩:=C1.reads;clear C1
 by_cases bh:fy=0
 ·have i1:((fy:Int) !=0)=false:=by simp[bh]
  have ay:dx ⟨O,ci,cn,cs,ax,cq,cl,ct,cb⟩=0:=cd.h.symm.trans bh;have dc:=ao ay;clear bh
  by_cases a5:O=1
  ·have i2:(O==1)=true:=by simp[a5]
   have dp:=ao a5;clear a5 ay;go_wp2_with fail;refine(SD g P m Gs R C O ci cn cs ax cq cl ct cb w1 a7.h dc.h dp.h ea hl).mono ?_;rintro en w2⟨h2,A,cp,Gs',rfl,ej⟩;go_wp2_with fail;go_ret;have I:res=lW P m ⟨O,ci,cn,cs,ax,cq,cl,ct,cb⟩:=by
    rw[cT.h];unfold pC;rw[if_neg (by rw[dc.h];simp),if_pos dp.h]
   rw[I];exact ic.before cX.h ⟨h2,A,cp,Gs',rfl,ej⟩ (by omega)
  ·have i2:(O==1)=false:=by simpa using a5
   obtain⟨ek,el,eo,ep,dS⟩:=FD ay a5;simp only at ek el eo ep dS;have bp:dZ ci:=by unfold dZ;omega
   have I:res=match sX m.S ci with
     |none=>(m,mH ci 26)
     |some (x,k,p,e)=>
      if O=4 then replaceM P m ⟨O,ci,cn,cs,ax,cq,cl,ct,cb⟩ x k p e
      else if O=2\/e.aw<=cq then dG m ci x k p e
      else jh m ci cq x k p e:=by
    rw[cT.h];unfold pC;rw[if_neg (by rw[dc.h];simp),if_neg a5];rfl
   obtain⟨fi,o0,o1,o2,o3,o4,fk,bt,cf⟩:∃fi o0 o1 o2 o3 o4 fk,XU w1 C.s ci fi o0 o1 o2 o3 o4 fk/\((fk=false/\res=(m,mH ci 26))\/(fk=true/\∃(x k:Nat) (M:BM) (r:iQ) (e:dn),m.S[x]?=some M/\r∈M.side k/\e∈r.2/\e.id=ci/\k<2/\fi=(x:Int)/\o0=ci/\o1=(k:Int)+1/\o2=r.1/\o3=e.aw/\o4=e.top/\
     res=if O=4 then replaceM P m ⟨O,ci,cn,cs,ax,cq,cl,ct,cb⟩ x k r.1 e else if O=2\/e.aw<=cq then dG m ci x k r.1 e else jh m ci cq x k r.1 e)):=by
    cases hf:sX m.S ci with
    |none=>
     rw[hf] at I;exact⟨_,_,_,_,_,_,_,fun u hu=>LO C.s P m.S Gs R ci u (a7.h.below hu).st bp (LD hf), .inl ⟨rfl,I⟩⟩
    |some y=>
     obtain⟨x,k,p,e⟩:=y;rw[hf] at I;obtain⟨M,h1,h2,r,h3,h4,h5,h6⟩:=sJ hf;subst h4;exact⟨_,_,_,_,_,_,_,fun u hu=>LP C.s P m.S Gs R x k M r e ci u (a7.h.below hu).st h1 h3 h5 h6 h2, .inr ⟨rfl,x,k,M,r,e,h1,h3,h5,h6,h2,rfl,rfl,rfl,rfl,rfl,rfl,I⟩⟩
   obtain⟨dp,HF,ef,HQ,er⟩:=rU a5 bt cf dS bp;have eg:∀u,Below w1.heap.size w1.drew u->Cz u g 11 (Pz C.s):=fun u hu=>Yb hu a7.h.b.D.lt (a7.h.b.D.cell 11);have e1:∀u,Below w1.heap.size w1.drew u->Cz u gc 1 (Iz ci):=fun u hu=>Yb hu c0.h.lt (c0.h.cell 1);clear a5 bt cf dS bp I ay
   go_upto_region 6 with(fail)
   clear d0 d1 d2 d3 d4 d5 d6 d7 d8
   go_cut [6,7,8] (fun a b c wx=>a= Iz fi/\c= .bool fk/\∃go,b= Pz go/\Hid (UG w1 wx go o0 o1 o2 o3 o4))
   case first=>
    refine Zy w1.heap.size 15 ?_;refine Zr [0,1,2,3,4,5] 9 ?_;refine Yr ?_;clear eg e1;obtain⟨wd,dT⟩:=Zn w1.drew;have cm:Bz w1 wd:=by rw[dT];exact aS (aa _ _)
    have bE:w1.heap.size<=wd.heap.size:=cm.size;rw[<-dT];clear dT;refine Zf [6,11] 8 ?_;refine Zo (fun K hK=>?_) ?_
    ·go_simp
     refine(HF.h wd cm).mono ?_;rintro en u1⟨rfl,bH⟩;refine Yo hK (bH.mono bE) ?_;have a8:Bz w1 u1:=cm.trans (bH.mono bE);have ba:w1.heap.size<=u1.heap.size:=a8.size;refine Zr [7,8,9,10] 4 ?_;refine Yr ?_;refine Zf [11] 3 ?_;refine Zo (fun K hK=>?_) ?_
     ·go_simp
      refine Yo hK ((au (aa _ _) _).mono ba) ?_;obtain⟨u2,cv⟩:=Zn (u1.alloc (.cells #[Iz 0,Iz 0,Iz 0,Iz 0, .bool false] 81));obtain⟨go,a2⟩:=Zn u1.heap.size;have J:=Zq cv a2;have bb:=Zw cv;have bQ:w1.heap.size<=go:=by rw[a2];exact ba
      rw[<-cv,<-a2];clear cv a2;have bR:Bz w1 u2:=a8.trans (bb.mono ba);have et:w1.heap.size<=u2.heap.size:=bR.size;clear bb;refine Zr [12] 2 ?_;refine Yr ?_;have z0:=J.cell 0;have z1:=J.cell 1;have z2:=J.cell 2;have z3:=J.cell 3;have z4:=J.cell 4;have y0:=J.frozen 0;have y1:=J.frozen 1;have y2:=J.frozen 2;have y3:=J.frozen 3;have y4:=J.frozen 4;have hw:=bO (us:=[Iz o0,Iz o1,Iz o2,Iz o3, .bool o4]) J rfl;have hb:=bA (us:=[Iz o0,Iz o1,Iz o2,Iz o3, .bool o4]) (i:=0) bQ (aa w1.heap.size u2);simp only[fW] at hw hb;refine Zf [13] 1 ?_;refine Zo (fun K hK=>?_) ?_
      ·go_simp
       refine Yo hK (hb) ?_;obtain⟨HW,HB⟩:=dF hw (bR.trans hb);clear hw hb z0 z1 z2 z3 z4 y0 y1 y2 y3 y4;refine Zr [14] 0 ?_;refine Yr ?_;refine Ze ?_;go_wp2_with fail;go_meet;exact⟨rfl,rfl,_,rfl,ao ⟨HW.h,HB.h,bQ⟩⟩
      exact aQ
     exact aQ
    refine Zo (fun K hK=>?_) ?_
    ·go_simp
     refine Yo hK ((au (aa _ _) _).mono bE) ?_;obtain⟨u1,cF⟩:=Zn (wd.alloc (.cells #[Iz 0,Iz 0,Iz 0,Iz 0, .bool false] 81));obtain⟨go,a2⟩:=Zn wd.heap.size;have eu:=Zq cF a2;have bH:=Zw cF;have bQ:w1.heap.size<=go:=by rw[a2];exact bE
     rw[<-cF,<-a2];clear cF a2;have a8:Bz w1 u1:=cm.trans (bH.mono bE);have ba:w1.heap.size<=u1.heap.size:=a8.size;clear bH;refine Zf [6] 7 ?_;refine Zo (fun K hK=>?_) ?_
     ·go_simp
      refine(HF.h u1 a8).mono ?_;rintro en u2⟨rfl,bb⟩;refine Yo hK (bb.mono ba) ?_;have bR:Bz w1 u2:=a8.trans (bb.mono ba);have et:w1.heap.size<=u2.heap.size:=bR.size;have J:=eu.below bb;refine Zr [7,8,9,10,12] 2 ?_;refine Yr ?_;have z0:=J.cell 0;have z1:=J.cell 1;have z2:=J.cell 2;have z3:=J.cell 3;have z4:=J.cell 4;have y0:=J.frozen 0;have y1:=J.frozen 1;have y2:=J.frozen 2;have y3:=J.frozen 3;have y4:=J.frozen 4;have hw:=bO (us:=[Iz o0,Iz o1,Iz o2,Iz o3, .bool o4]) J rfl;have hb:=bA (us:=[Iz o0,Iz o1,Iz o2,Iz o3, .bool o4]) (i:=0) bQ (aa w1.heap.size u2);simp only[fW] at hw hb;refine Zf [13] 1 ?_;refine Zo (fun K hK=>?_) ?_
      ·go_simp
       refine Yo hK (hb) ?_;obtain⟨HW,HB⟩:=dF hw (bR.trans hb);clear hw hb z0 z1 z2 z3 z4 y0 y1 y2 y3 y4;refine Zr [14] 0 ?_;refine Yr ?_;refine Ze ?_;go_wp2_with fail;go_meet;exact⟨rfl,rfl,_,rfl,ao ⟨HW.h,HB.h,bQ⟩⟩
      exact aQ
     exact aQ
    exact aQ
   obtain⟨rfl,rfl,go,rfl,HG⟩:=hcut;obtain⟨w2,rfl⟩:=Zn wc;obtain⟨hD,hB, -⟩:=HG.h;have M2:=a7.h.below hB;have C2:=c0.h.below hB;obtain⟨d0,d1,d2,d3,d4,d5,d6,d7,d8⟩:=C2.reads;have q0:Cz w2 go 0 (Iz o0):=hD.cell 0;have q1:Cz w2 go 1 (Iz o1):=hD.cell 1;have q2:Cz w2 go 2 (Iz o2):=hD.cell 2;have q3:Cz w2 go 3 (Iz o3):=hD.cell 3;have q4:Cz w2 go 4 (.bool o4):=hD.cell 4;obtain⟨bU,cH⟩:=dF M2 (dW cX.h hB);clear HG hD hB M2 C2 HF eg e1;have cf:=ef.h;clear ef;rcases cf with⟨rfl,I⟩|⟨rfl,x,k,M,r,e,hM,hr,he,ei,hk,rfl,h0,h1,h2,h3,h4,I⟩
   ·have a6:=ao I
    clear I;go_wp2_with fail;refine(km O ci cn cs ax cq cl ct cb 26 w2).mono ?_;rintro en w3⟨A,cp,rfl,own,b3⟩;go_wp2_with fail;go_ret;rw[a6.h];exact(ic.same bU.h rfl own b3).before cH.h (by show 1<=_;omega)
   ·subst h0
    have hx:x<P.count:=by rw[<-bU.h.st.len];exact(az.1 hM).1
    obtain⟨a6,d9,HR,HE,HI,H1,H2,H3,H4⟩:=QG I hM hr he ei h1 h2 h3 h4;clear I hM hr he ei h1 h2 h3 h4
    by_cases a0:O=4
    ·have i3:(O==4)=true:=by simp[a0]
     have bV:=ao a0;clear a0;go_wp2_with fail;refine(PY g P m Gs R C O o0 cn cs ax cq cl ct cb x k M r e o1 o2 o3 o4 w2 bU.h d9.h HR.h HE.h HI.h hk hx (HQ.h (by rw[bV.h];omega)) er.h ea hl H1.h H2.h H3.h H4.h).mono ?_;rintro en w3⟨h3,A,cp,Gs',rfl,b0⟩;go_wp2_with fail;go_ret;rw[a6.h,if_pos bV.h];exact ic.before cH.h ⟨h3,A,cp,Gs',rfl,b0⟩ (by omega)
    ·have i3:(O==4)=false:=by simpa using a0
     have bV:=ao a0;clear a0;obtain⟨z,ez⟩:=Zn (decide (O=2\/o3<=cq));have HZ:=ao ez;clear ez
     go_upto_region 11 with(fail)
     go_cut [47] (fun v wx=>v= .bool z/\w2=wx)
     case first=>
      by_cases bc:O=2
      ·have i4:(O==2)=true:=by simp[bc]
       have hz:z=true:=by rw[HZ.h];simp[bc]
       clear bc;subst hz;go_wp2_with fail;go_meet;exact⟨rfl,rfl⟩
      ·have i4:(O==2)=false:=by simpa using bc
       have hz:z=decide (o3<=cq):=by rw[HZ.h];simp[bc]
       have ew:=ao hz;clear bc hz;go_wp2_with fail;go_meet;exact⟨by rw[ew.h],rfl⟩
     obtain⟨rfl,rfl⟩:=hcut;rcases(cG z).symm with hz|hz
     ·subst hz
      have b7:¬(O=2\/o3<=cq):=by simpa using HZ.h.symm
      have b8:=ao b7;clear HZ b7;go_wp2_with fail;refine(SF g P m Gs R C x k M r e o0 cq o1 o2 o3 o4 w2 bU.h d9.h HR.h HE.h HI.h hk ⟨by have:=HQ.h (fun e'=>b8.h (.inl e'));omega,by rw[<-H3.h];have:=b8.h;omega⟩ H1.h H2.h H3.h H4.h).mono ?_;rintro en w3⟨h3,A,cp,Gs',rfl,b0⟩;go_wp2_with fail;go_ret;rw[a6.h,if_neg bV.h,if_neg (by rw[<-H3.h];exact b8.h)];exact ic.before cH.h ⟨h3,A,cp,Gs',rfl,b0⟩ (by omega)
     ·subst hz
      have b7:O=2\/o3<=cq:=by simpa using HZ.h.symm
      have b8:=ao b7;clear HZ b7;go_wp2_with fail;refine(SE g P m Gs R C x k M r e o0 o1 o2 o3 o4 w2 bU.h d9.h HR.h HE.h HI.h hk H1.h H2.h H3.h H4.h).mono ?_;rintro en w3⟨h3,A,cp,Gs',rfl,b0⟩;go_wp2_with fail;go_ret;rw[a6.h,if_neg bV.h,if_pos (by rw[<-H3.h];exact b8.h)];exact ic.before cH.h ⟨h3,A,cp,Gs',rfl,b0⟩ (by omega)
 ·have i1:((fy:Int) !=0)=true:=by simp;omega
  have ey:=ao bh;clear bh;go_wp2_with fail;refine(km O ci cn cs ax cq cl ct cb (fy:Int) w1).mono ?_;rintro en w2⟨A,cp,rfl,own,b2⟩;go_wp2_with fail;go_ret;have I:res=(m,mH ci (fy:Int)):=by
   rw[cT.h];unfold pC;rw[if_pos (by rw[<-cd.h];exact ey.h),<-cd.h]
  rw[I];exact(ic.same a7.h rfl own b2).before cX.h (by show 1<=_;omega)
def XV (B:Nat) (w1 wx:World) (g:Nat) (P:PD):Prop:=WI B w1 wx g P∧Lv (fun k=>k=g) w1 wx
theorem vx {D u:World} {g:Nat} {mc:Nat} {sc:Nat} {O A2:Option Addr} {c1 c2 n1 n2:Nat} (hP:P.gZ) (hg:aE D g 25 (P.cells ma mc sa sc)) (I:n1=P.E.length) (J:n2=P.settle.length)
  (hb:Bz D u) (h1:u.ownsRow D.heap.size 3 1 (.slice O n1 c1) n1 (bZ P.E)) (h2:u.ownsRow D.heap.size 2 1 (.slice A2 n2 c2) n2 (bZ P.settle)) {B:Nat} (hB:B<=g):
  XV B D ((u.setCell ⟨g,1,none⟩ (.slice O n1 c1)).setCell ⟨g,10,none⟩ (.slice A2 n2 c2)) g P:=
 ⟨xZ hP hg I J hb h1 h2 hB,((Lv.bL hb:Lv (fun k=>k=g) D u).setCell (p:=⟨g,1,none⟩) rfl _).setCell (p:=⟨g,10,none⟩) rfl _⟩
theorem dR.split {G R:Nat->Prop} {s:Nat} {S:Sm} (h:dR w G R s P S):∃I R':Nat->Prop,dR w I R' s P S/\(∀k,I k->G k)/\(∀k,R' k->R k)/\∀k,I k->¬R' k:=by
 obtain⟨C,J,O,h3,h4⟩:=h;exact⟨fun k=>G k/\¬C.ro k,C.ro,⟨C,J,fun k D=>⟨O k D,fun hr=>J.Yv k hr D⟩,fun x k D=>⟨h3 x k D,(J.off x k D).2⟩,fun k D=>D⟩,fun k D=>D.1,h4,fun k D=>D.2⟩
theorem JK (P:PD) (ma:Option Addr) (mc:Nat) (sa:Option Addr) (sc:Nat) (w:World) (h:iZ w P ma sa):
  Wz 15 #[P.val ma mc sa sc] w fun e w'=> ∃g C Gs R,e= .returned (.tuple #[Pz g,Iz 0])/\jW w' Gs R g P (Mk.new P) C/\Bz w w'/\w.heap.size<=g/\w.heap.size<=C.ub/\∀j,Gs j\/R j->w.heap.size<=j:=by
 have hP:=h.right;obtain⟨w0,cf⟩:=Zn (w.alloc (.cells (P.cells ma mc sa sc) 25));obtain⟨g,eg⟩:=Zn w.heap.size;have B0:=Zw cf;have D0:=Zq cf eg;have h0:=h.below B0;obtain⟨c0,c1,c2,c3,c4,c5,c6,c7,c8,c9,wJ⟩:=fM.gX (w:=w0) (g:=g) D0;obtain⟨H0,d4,d5,HP,EG⟩:=rU h0 D0 B0 hP eg;have cv:=PR P ma mc sa sc w0 h0;rw[PD.jt] at cv⊢;have d6:=ao cv;clear h h0 D0 B0 hP cv
 go_enter Tryz.func15,Tryz.ntmps15
 go_upto_region 1 with(fail)
 rw[<-cf,<-eg];clear cf eg;go_wp2_with fail;refine d6.mono ?_;rintro e I⟨s',rfl,d7,b1⟩;obtain⟨G',R',cm,d8,d9,ea⟩:=d7.split;obtain⟨ew,ey,ez,eA⟩:=mh cm d8 d9 ea;clear d7 cm d8 d9 ea d6
 go_upto_region 4 with(fail)
 have D1:=d4.h.below b1;obtain⟨ba,eb⟩:=dF D1 b1;have eK:g<I.heap.size:=D1.lt;have l1:∀u,Below I.heap.size I.drew u->Cz u g 1 (.slice ma P.E.length mc):=fun u hu=>(D1.below ((aS (aa _ _)).trans hu)).cell 1;have ed:∀u,Below I.heap.size I.drew u->Cz u g 10 (.slice sa P.settle.length sc):=fun u hu=>(D1.below ((aS (aa _ _)).trans hu)).cell 10;obtain⟨n1,bQ⟩:=Zn P.E.length;obtain⟨n2,bR⟩:=Zn P.settle.length;rw[<-bQ] at l1;rw[<-bR] at ed;have ef:(bZ P.E).length=n1*1:=by simp[bZ,bQ]
 have ei:(bZ P.settle).length=n2*1:=by simp[bZ,bR]
 have cn:bZ P.E≠[]:=by intro e;have:=congrArg List.length e;have h2:=HP.h.n2;simp[bZ] at this;rw[this] at h2;simp at h2
 have ct:bZ P.settle≠[]:=by intro e;have:=congrArg List.length e;have h2:=HP.h.n2;have h3:=HP.h.vI;simp[bZ] at this;rw[this] at h3;simp at h3;omega
 have eL:n1<=6:=bQ▸HP.n6;have eM:n2<=6:=by rw[bR,HP.h.vI];exact HP.n6
 have C1:Cells I ma (bZ P.E):=(H0.below b1).m;have C2:Cells I sa (bZ P.settle):=(H0.below b1).s;obtain⟨cF,cH,cQ,cS,cT,cX,dc,dp⟩:=Dw ef ei cn ct C1 C2 bQ bR;clear c0 c1 c2 c3 c4 c5 c6 c7 c8 c9 wJ D1 b1 ef ei cn ct C1 C2 bQ bR
 go_cut [1] (fun s wx=>s= Pz g/\Hid (XV w.heap.size I wx g P))
 case first=>
  refine oM (R:=Below I.heap.size) 12 [9,10,11] (by kernel_rfl) (by kernel_rfl) ?_;refine kF [1,2,5,6] 8 (fun _ _ _ _ _ h=>h) (by kernel_rfl) (dH.J _ _) ?_;refine Yr ?_;clear l1 ed;obtain⟨u0,dS⟩:=Zn I.drew;have dT:Bz I u0:=dS▸aS (aa _ _);have bE:I.heap.size<=u0.heap.size:=dT.size;rw[<-dS];clear dS;refine dt [0,4] (dH.tr _) 7 (by kernel_rfl) ?_;refine dh (by rfl) (by rfl) (fun K hK=>?_) ?_
  ·go_simp
   refine Yo hK ((au (aa _ _) _).mono bE) ?_;obtain⟨u1,bb⟩:=Zn (u0.alloc (.cells #[] 3));obtain⟨g0,bU⟩:=Zn u0.heap.size;have r1:=DL bE 3;have d2:=Zw bb;rw[<-bb,<-bU] at r1⊢;clear bb bU;have bc:=dT.trans (d2.mono bE);have a2:I.heap.size<=u1.heap.size:=bc.size;refine dt [3,4] (dH.tr _) 6 (by kernel_rfl) ?_;refine dh (by rfl) (by rfl) (fun K hK=>?_) ?_
   ·refine fZ sH r1 (A:=ma) (m:=n1) (c:=mc) (news:=bZ P.E) _ _ rfl rfl rfl cF cQ (cT.below (bc.mono (bu rfl))) (jA _) ae a2 n1 (bZ P.E) ae bT ?_
    intro A3 c3 u2 D;have a5:Below I.heap.size u1 u2:=D.below _ _ (af _) (aa _ _);have a0:=bc.trans a5;have bf:I.heap.size<=u2.heap.size:=a0.size;replace r1:=D.own;clear D;refine Yo hK (a5) ?_;refine kF [8] 5 (fun _ _ _ _ _ h=>h) (by kernel_rfl) (dH.J _ _) ?_;refine Yr ?_;refine dt [4] (dH.tr _) 4 (by kernel_rfl) ?_;refine dh (by rfl) (by rfl) (fun K hK=>?_) ?_
    ·go_simp
     refine Yo hK ((au (aa _ _) _).mono bf) ?_;obtain⟨u3,d3⟩:=Zn (u2.alloc (.cells #[] 2));obtain⟨g4,a6⟩:=Zn u2.heap.size;have r2:=DL bf 2;have a7:=Zw d3;rw[<-d3,<-a6] at r2⊢;clear d3 a6;have ax:=a0.trans (a7.mono bf);have bV:I.heap.size<=u3.heap.size:=ax.size;replace r1:=bP r1 a7;refine dt [7] (dH.tr _) 3 (by kernel_rfl) ?_;refine dh (by rfl) (by rfl) (fun K hK=>?_) ?_
     ·refine fZ sL r2 (A:=sa) (m:=n2) (c:=sc) (news:=bZ P.settle) _ _ rfl rfl rfl cH cS (cX.below (ax.mono (bu rfl))) (jA _) ae bV n2 (bZ P.settle) ae bT ?_
      intro A7 c7 u4 D;have a8:Below I.heap.size u3 u4:=D.below _ _ (af _) (aa _ _);have ay:=ax.trans a8;have ej:I.heap.size<=u4.heap.size:=ay.size;replace r1:=nZ D r1 (oa r1 r2 (by decide));replace r2:=D.own;clear D;refine Yo hK (a8) ?_;have G:=ba.h.below ay;have f1:Fz u4 g 1:=G.frozen 1;have ek:Fz u4 g 10:=G.frozen 10;have q1:Cz u4 g 1 (.slice ma P.E.length mc):=G.cell 1;have el:Cz u4 g 10 (.slice sa P.settle.length sc):=G.cell 10;have fin:=vx (B:=w.heap.size) HP ba dc dp ay r1 r2 (bu EG.symm);have b0:=ao fin;clear fin;refine dz 9 2 (by kernel_rfl) (by rfl) (by rfl) (fun K hK=>?_);go_simp;refine Yl hK ?_;refine dz 10 1 (by kernel_rfl) (by rfl) (by rfl) (fun K hK=>?_);go_simp;refine Yl hK ?_;refine dz 11 0 (by kernel_rfl) (by rfl) (by rfl) (fun K hK=>?_);go_simp;refine Yl hK ?_;refine mK (by kernel_rfl) ?_;go_wp2_with fail;go_meet;exact⟨rfl,b0⟩
     exact dJ
    exact dJ
   refine dh (by rfl) (by rfl) (fun K hK=>?_) ?_
   ·go_simp
    refine Yo hK ((au (aa _ _) _).mono a2) ?_;obtain⟨u2,bh⟩:=Zn (u1.alloc (.cells #[] 2));obtain⟨g4,a6⟩:=Zn u1.heap.size;have r2:=DL a2 2;have a5:=Zw bh;rw[<-bh,<-a6] at r2⊢;clear bh a6;have a0:=bc.trans (a5.mono a2);have bf:I.heap.size<=u2.heap.size:=a0.size;replace r1:=bP r1 a5;refine dt [3] (dH.tr _) 5 (by kernel_rfl) ?_;refine dh (by rfl) (by rfl) (fun K hK=>?_) ?_
    ·refine fZ sH r1 (A:=ma) (m:=n1) (c:=mc) (news:=bZ P.E) _ _ rfl rfl rfl cF cQ (cT.below (a0.mono (bu rfl))) (jA _) ae bf n1 (bZ P.E) ae bT ?_
     intro A3 c3 u3 D;have a7:Below I.heap.size u2 u3:=D.below _ _ (af _) (aa _ _);have ax:=a0.trans a7;have bV:I.heap.size<=u3.heap.size:=ax.size;replace r2:=nZ D r2 (oa r2 r1 (by decide));replace r1:=D.own;clear D;refine Yo hK (a7) ?_;refine kF [8] 4 (fun _ _ _ _ _ h=>h) (by kernel_rfl) (dH.J _ _) ?_;refine Yr ?_;refine dt [7] (dH.tr _) 3 (by kernel_rfl) ?_;refine dh (by rfl) (by rfl) (fun K hK=>?_) ?_
     ·refine fZ sL r2 (A:=sa) (m:=n2) (c:=sc) (news:=bZ P.settle) _ _ rfl rfl rfl cH cS (cX.below (ax.mono (bu rfl))) (jA _) ae bV n2 (bZ P.settle) ae bT ?_
      intro A7 c7 u4 D;have a8:Below I.heap.size u3 u4:=D.below _ _ (af _) (aa _ _);have ay:=ax.trans a8;have ej:I.heap.size<=u4.heap.size:=ay.size;replace r1:=nZ D r1 (oa r1 r2 (by decide));replace r2:=D.own;clear D;refine Yo hK (a8) ?_;have G:=ba.h.below ay;have f1:Fz u4 g 1:=G.frozen 1;have ek:Fz u4 g 10:=G.frozen 10;have q1:Cz u4 g 1 (.slice ma P.E.length mc):=G.cell 1;have el:Cz u4 g 10 (.slice sa P.settle.length sc):=G.cell 10;have fin:=vx (B:=w.heap.size) HP ba dc dp ay r1 r2 (bu EG.symm);have b0:=ao fin;clear fin;refine dz 9 2 (by kernel_rfl) (by rfl) (by rfl) (fun K hK=>?_);go_simp;refine Yl hK ?_;refine dz 10 1 (by kernel_rfl) (by rfl) (by rfl) (fun K hK=>?_);go_simp;refine Yl hK ?_;refine dz 11 0 (by kernel_rfl) (by rfl) (by rfl) (fun K hK=>?_);go_simp;refine Yl hK ?_;refine mK (by kernel_rfl) ?_;go_wp2_with fail;go_meet;exact⟨rfl,b0⟩
     exact dJ
    exact dJ
   exact dJ
  refine dh (by rfl) (by rfl) (fun K hK=>?_) ?_
  ·go_simp
   refine Yo hK ((au (aa _ _) _).mono bE) ?_;obtain⟨u1,bb⟩:=Zn (u0.alloc (.cells #[] 2));obtain⟨g4,a6⟩:=Zn u0.heap.size;have r2:=DL bE 2;have d2:=Zw bb;rw[<-bb,<-a6] at r2⊢;clear bb a6;have bc:=dT.trans (d2.mono bE);have a2:I.heap.size<=u1.heap.size:=bc.size;refine dt [0] (dH.tr _) 6 (by kernel_rfl) ?_;refine dh (by rfl) (by rfl) (fun K hK=>?_) ?_
   ·go_simp
    refine Yo hK ((au (aa _ _) _).mono a2) ?_;obtain⟨u2,bh⟩:=Zn (u1.alloc (.cells #[] 3));obtain⟨g0,bU⟩:=Zn u1.heap.size;have r1:=DL a2 3;have a5:=Zw bh;rw[<-bh,<-bU] at r1⊢;clear bh bU;have a0:=bc.trans (a5.mono a2);have bf:I.heap.size<=u2.heap.size:=a0.size;replace r2:=bP r2 a5;refine dt [3] (dH.tr _) 5 (by kernel_rfl) ?_;refine dh (by rfl) (by rfl) (fun K hK=>?_) ?_
    ·refine fZ sH r1 (A:=ma) (m:=n1) (c:=mc) (news:=bZ P.E) _ _ rfl rfl rfl cF cQ (cT.below (a0.mono (bu rfl))) (jA _) ae bf n1 (bZ P.E) ae bT ?_
     intro A3 c3 u3 D;have a7:Below I.heap.size u2 u3:=D.below _ _ (af _) (aa _ _);have ax:=a0.trans a7;have bV:I.heap.size<=u3.heap.size:=ax.size;replace r2:=nZ D r2 (oa r2 r1 (by decide));replace r1:=D.own;clear D;refine Yo hK (a7) ?_;refine kF [8] 4 (fun _ _ _ _ _ h=>h) (by kernel_rfl) (dH.J _ _) ?_;refine Yr ?_;refine dt [7] (dH.tr _) 3 (by kernel_rfl) ?_;refine dh (by rfl) (by rfl) (fun K hK=>?_) ?_
     ·refine fZ sL r2 (A:=sa) (m:=n2) (c:=sc) (news:=bZ P.settle) _ _ rfl rfl rfl cH cS (cX.below (ax.mono (bu rfl))) (jA _) ae bV n2 (bZ P.settle) ae bT ?_
      intro A7 c7 u4 D;have a8:Below I.heap.size u3 u4:=D.below _ _ (af _) (aa _ _);have ay:=ax.trans a8;have ej:I.heap.size<=u4.heap.size:=ay.size;replace r1:=nZ D r1 (oa r1 r2 (by decide));replace r2:=D.own;clear D;refine Yo hK (a8) ?_;have G:=ba.h.below ay;have f1:Fz u4 g 1:=G.frozen 1;have ek:Fz u4 g 10:=G.frozen 10;have q1:Cz u4 g 1 (.slice ma P.E.length mc):=G.cell 1;have el:Cz u4 g 10 (.slice sa P.settle.length sc):=G.cell 10;have fin:=vx (B:=w.heap.size) HP ba dc dp ay r1 r2 (bu EG.symm);have b0:=ao fin;clear fin;refine dz 9 2 (by kernel_rfl) (by rfl) (by rfl) (fun K hK=>?_);go_simp;refine Yl hK ?_;refine dz 10 1 (by kernel_rfl) (by rfl) (by rfl) (fun K hK=>?_);go_simp;refine Yl hK ?_;refine dz 11 0 (by kernel_rfl) (by rfl) (by rfl) (fun K hK=>?_);go_simp;refine Yl hK ?_;refine mK (by kernel_rfl) ?_;go_wp2_with fail;go_meet;exact⟨rfl,b0⟩
     exact dJ
    exact dJ
   exact dJ
  exact dJ
 obtain⟨rfl,HT⟩:=hcut;obtain⟨⟨bp,b7,bt,b8,D2,eo,ep,b2⟩,L2⟩:=HT.h;obtain⟨c0,c1,c2,c3,c4,c5,c6,c7,c8,c9,wJ⟩:=fM.gX (w:=wc) (g:=g) D2;obtain⟨eB,eC,er,eN,eD⟩:=rU eo ep b2 D2 L2;clear eo ep b2 D2 HT L2;have eO:∀w:World,(Instr.makeMap 88 none).run Tryz.prog w= .ok (.map (some w.heap.size)) (w.alloc (.map #[] 0)):=fun _=>rfl;go_wp2_with fail
 go_ret2
 obtain⟨w2,ck⟩:=Zn ((wc.alloc (.map #[] 0)).alloc (.cells (Ah P bp b7 bt b8 s' wc.heap.size) 90));have cl:Bz wc w2:=ck▸au (au (aa _ _) _) _;have G2:aE w2 (wc.heap.size+1) 90 (Ah P bp b7 bt b8 s' wc.heap.size):=by
  rw[ck];have h:=heap_alloc_new (wc.alloc (.map #[] 0)) (.cells (Ah P bp b7 bt b8 s' wc.heap.size) 90);rw[cw] at h;exact h
 have M2:fR w2 wc.heap.size (sY fun _=>false) 0:=by
  rw[ck];have:(sY fun _=>false)=fun _=>none:=by funext y;simp[sY]
  rw[this];exact(fR.new wc).below (au (aa _ _) _)
 have et:w.heap.size<=w0.heap.size:=d5.size;have eF:w0.heap.size<=I.heap.size:=eb.size;have eG:I.heap.size<=wc.heap.size:=er.size;have eI:wc.heap.size<=w2.heap.size:=cl.size;have eP:g<I.heap.size:=ba.lt;have eJ:g<w0.heap.size:=d4.lt;have bH:∀k,G' k->w0.heap.size<=k/\k<I.heap.size:=ey;have b9:∀k,R' k->w0.heap.size<=k/\k<I.heap.size:=ez;have cd:=eC.h;have eu:dR wc G' R' s' P (Mk.new P).S:=ew.lv eD fun k O e=>by
  have e':k=g:=e;rcases O with O|O
  ·have:=bH k O;omega
  ·have:=b9 k O;omega
 have hM:jW w2 G' (fun k=>R' k\/qP bp k\/qP bt k) (wc.heap.size+1) P (Mk.new P) ⟨bp,b7,bt,b8,s',wc.heap.size⟩:=by
  refine⟨⟨G2,eB.below cl⟩,(eu.below cl).mono (fun k O _=>O) (fun k O=> .inl O),M2,fun k O=>cA (bH k O),fun k O=>?_,fun k O=>⟨cA (bH k O),by show k≠wc.heap.size;have:=bH k O;omega,fun hr=>?_⟩,by show wc.heap.size+1≠wc.heap.size;omega,fun k O=> .inr O,⟨fun hr=>?_,fun hr=>?_⟩,fun id hs=>?_⟩
  ·rcases O with O|O
   ·have:=b9 k O;omega
   ·have:=cd k O;omega
  ·rcases hr with hr|hr
   ·exact eA k O hr
   ·have:=cd k hr;have:=bH k O;omega
  ·rcases hr with hr|hr
   ·have:=b9 _ hr;omega
   ·have:=cd _ hr;omega
  ·have eE:R' wc.heap.size\/qP bp wc.heap.size\/qP bt wc.heap.size:=hr
   rcases eE with hr|hr
   ·have:=b9 _ hr;omega
   ·have:=cd _ hr;omega
  ·obtain⟨x,M,e,h1,h2,_⟩:=hs
   have h':(List.replicate P.count (⟨[],[]⟩:BM))[x]?=some M:=h1;rw[gM] at h'
   split at h'<;>simp at h'
   rw[<-h'] at h2;exact absurd (show e∈([]:List dn) from h2) bT
 have BB:Bz w w2:=((d5.trans (eb.mono et)).trans er).trans (cl.mono ae);rw[ck] at hM BB;refine⟨wc.heap.size+1,⟨bp,b7,bt,b8,s',wc.heap.size⟩,G',_,rfl,hM,BB,ae,by show w.heap.size<=wc.heap.size;omega,fun j hj=>?_⟩;rcases hj with hj|hj|hj
 ·have:=bH j hj;omega
 ·have:=b9 j hj;omega
 ·have:=cd j hj;omega
theorem vy (g:Nat) (P:PD) (m:Mk) (Gs R:Nat->Prop) (C:zt) (w:World) (h:jW w Gs R g P m C):
  Wz 78 #[Pz g] w fun e w'=>e= .returned (Pz C.s)/\w=w':=by
 have I:Cz w g 11 (Pz C.s):=h.b.D.cell 11;clear h
 go_enter Tryz.func78,Tryz.ntmps78
 go_wp2_with fail;go_ret;exact⟨rfl,rfl⟩
theorem rM (h:G<=W.heap.size) (o:Obj):Below G W.drew (W.alloc o).drew:=by
 have:=((dH.J G W).alloc h o).drew;exact⟨this.os,this.tape,this.output,this.size,this.block⟩
theorem rN (h:G<=W.heap.size) (o D:Obj):Below G (W.alloc o).drew (W.alloc D).drew:=
 ⟨rfl,rfl,rfl,by show(W.alloc o).heap.size<=(W.alloc D).heap.size;simp,fun k I=>by
  show(W.alloc D).heap[k]?=(W.alloc o).heap[k]?;rw[du W D k ae,du W o k ae]⟩
theorem oc (D:W.heap.size=G) (o:Obj):Below G W (W.alloc o).drew/\(W.alloc o).drew.heap[G]?=some o:=by
 subst D;exact⟨((aa _ _).alloc (af _) o).drew,heap_alloc_new _ _⟩
def V3 (P:PD) (w:World) (e:Ending) (w':World):Prop:=∃ma mc sa sc,e= .returned (P.val ma mc sa sc)∧iZ w' P ma sa∧(∀q,qP ma q∨qP sa q→w.heap.size≤q)∧Bz w w'
def NU (k:Nat):List Int:=(List.range k).map fun i:Nat=>10*(i:Int)+3
def NV (t:Int) (k:Nat):List Int:=(List.range k).map fun i:Nat=>t*(10+(i:Int))
theorem Qe (k:Nat):bZ (NU (k+1))=bZ (NU k)++[Iz (10*(k:Int)+3)]:=by
 unfold NU bZ;rw[yl];simp
theorem Qf (t:Int) (k:Nat):bZ (NV t (k+1))=bZ (NV t k)++[Iz (t*(10+(k:Int)))]:=by
 unfold NV bZ;rw[yl];simp
theorem Ti {t:Int} {k:Nat} (D:1<=t/\t<=10) (I:(k:Int)<=5):wrap64 (t*(10+(k:Int)))=t*(10+(k:Int)):=by
 have J:0<=t*(10+(k:Int)):=jG ae ae;have O:t*(10+(k:Int))<=10*15:=tA ae ae ae ae;exact py _ ae
theorem Qg {t i:Int} (D:1<=t/\t<=10) (hi:0<=i/\i<=60):wrap64 (t*(5+i))=t*(5+i):=by
 have I:0<=t*(5+i):=jG ae ae;have J:t*(5+i)<=10*65:=tA ae ae ae ae;exact py _ ae
theorem GZ (pc:Value) (ma:Option Addr) (mn mc:Nat) (ti:Int) (lo hi:Value) (wi ru top le pa:Int) (se:Value) (w:World) (d9:mn<=9223372036854775807):
  Wz 14 #[.agg #[pc, .slice ma mn mc,Iz ti,lo,hi,Iz wi,Iz ru,Iz top,Iz le,Iz pa,se]] w (V3 (Gr mn ti wi ru top le pa) w):=by
 have b1:=cW (mn:Int) 0 3 (by omega);have b2:=cW ti 0 9 (by omega);have b3:=cW ru 0 2 (by omega);have b4:=cW top 0 9 (by omega);have b5:=cW le 0 4 (by omega);have b6:=cW pa 0 100 (by omega);have b7:=cW wi 0 60 (by omega);obtain⟨n',en⟩:=Zn (within (mn:Int) 0 3);obtain⟨t',et⟩:=Zn (within ti 0 9);obtain⟨r',er⟩:=Zn (within ru 0 2);obtain⟨p',ep⟩:=Zn (within top 0 9);obtain⟨l',el⟩:=Zn (within le 0 4);obtain⟨a',ea⟩:=Zn (within pa 0 100);obtain⟨i',ei⟩:=Zn (within wi 0 60);have a0:=Gt mn ti wi ru top le pa;obtain⟨PX,bp⟩:=Zn (Gr mn ti wi ru top le pa);rw[<-bp] at a0⊢;have bc:PX=zn (2+n') (1+t') i' (1+r') p' (1+l') a':=by rw[bp,en,et,ei,er,ep,el,ea];rfl
 have bb:=ao bc;have dS:=ao a0;clear bp bc a0;rw[<-en] at b1;rw[<-et] at b2;rw[<-er] at b3;rw[<-ep] at b4;rw[<-el] at b5;rw[<-ea] at b6;rw[<-ei] at b7;have EN:=ao en;have ET:=ao et;have ER:=ao er;have EP:=ao ep;have EL:=ao el;have EA:=ao ea;have EI:=ao ei;clear en et er ep el ea ei;obtain⟨W0,a6⟩:=Zn ((w.alloc (.cells #[pc, .slice ma mn mc,Iz ti,lo,hi,Iz wi,Iz ru,Iz top,Iz le,Iz pa,se] 25)).alloc (.cells #[.string ⟨#[]⟩, .slice none 0 0,Iz 0,Iz 0,Iz 0,Iz 0,Iz 0,Iz 0,Iz 0,Iz 0, .slice none 0 0] 25));obtain⟨g,eg⟩:=Zn w.heap.size;have bE:W0.heap.size=g+2:=by rw[a6,eg];simp
 have a2:W0.heap[g]?=some (.cells #[pc, .slice ma mn mc,Iz ti,lo,hi,Iz wi,Iz ru,Iz top,Iz le,Iz pa,se] 25 (0,0)):=by
  rw[a6,eg,heap_alloc_old _ _ (by simp)];exact heap_alloc_new _ _
 have bH:W0.heap[g+1]?=some (.cells #[.string ⟨#[]⟩, .slice none 0 0,Iz 0,Iz 0,Iz 0,Iz 0,Iz 0,Iz 0,Iz 0,Iz 0, .slice none 0 0] 25 (0,0)):=by
  have h:=heap_alloc_new (w.alloc (.cells #[pc, .slice ma mn mc,Iz ti,lo,hi,Iz wi,Iz ru,Iz top,Iz le,Iz pa,se] 25)) (.cells #[.string ⟨#[]⟩, .slice none 0 0,Iz 0,Iz 0,Iz 0,Iz 0,Iz 0,Iz 0,Iz 0,Iz 0, .slice none 0 0] 25);rw[cw] at h;rw[a6,eg];exact h
 have BW:Bz w W0:=by rw[a6];exact au (au (aa _ _) _) _
 go_enter Tryz.func14,Tryz.ntmps14
 go_wp2_with fail;refine(dg (mn:Int) 0 3 _ (by omega) (by omega) (by omega)).mono ?_;rw[<-EN.h];rintro e u⟨rfl,rfl⟩;go_wp2_with fail;refine(dg ti 0 9 _ (by omega) (by omega) (by omega)).mono ?_;rw[<-ET.h];rintro e u⟨rfl,rfl⟩
 go_upto_region 3 with(fail)
 rw[<-a6,<-eg];have EG:=ao eg;clear a6 eg;obtain⟨G,eG⟩:=Zn (g+2);rw[<-eG] at bE;have a7:g<G:=by omega
 have b0:g+1<G:=by omega
 have eb:=ao eG;have D:=ao bE;clear eG bE;have dT:=ao a2;have d2:=ao bH
 go_cut [5] (fun s wx=>s= Pz G/\Below G W0 wx/\Hid (wx.heap[G]?=some (.cells #[.string ⟨#[206,169]⟩, .slice none 0 0,Iz (1+t'),Iz (-20*(1+t')),Iz (100*(1+t')),Iz 0,Iz (1+r'),Iz p',Iz (1+l'),Iz a', .slice none 0 0] 25 (0,0))))
 case first=>
  have l6:∀u,Below G W0.drew u->u.cell? ⟨g,6,none⟩=some (Iz ru):=fun u hu=>Yb hu (a7) (by show W0.cell? ⟨g,6,none⟩=_;simp[World.cell?,a2]);have l7:∀u,Below G W0.drew u->u.cell? ⟨g,7,none⟩=some (Iz top):=fun u hu=>Yb hu (a7) (by show W0.cell? ⟨g,7,none⟩=_;simp[World.cell?,a2]);have l8:∀u,Below G W0.drew u->u.cell? ⟨g,8,none⟩=some (Iz le):=fun u hu=>Yb hu (a7) (by show W0.cell? ⟨g,8,none⟩=_;simp[World.cell?,a2]);have l9:∀u,Below G W0.drew u->u.cell? ⟨g,9,none⟩=some (Iz pa):=fun u hu=>Yb hu (a7) (by show W0.cell? ⟨g,9,none⟩=_;simp[World.cell?,a2]);clear a2 bH;have s1:IntKind.i64.wrap (1+r')=1+r':=aN _ (by omega);have s2:IntKind.i64.wrap (1+l')=1+l':=aN _ (by omega);have s3:IntKind.i64.wrap (-20*(1+t'))= -20*(1+t'):=aN _ (by omega);have s4:IntKind.i64.wrap (100*(1+t'))=100*(1+t'):=aN _ (by omega);refine Zy G 22 ?_;refine Zr [0,1,2,3,4,5,6,9,10,12,13,16,17] 9 ?_;refine Yr ?_;clear l6 l7 l8 l9;refine Zf [7,20] 8 ?_;refine Zo (fun K hK=>?_) ?_
  ·go_simp
   refine(dg ru 0 2 _ (by omega) (by omega) (by omega)).mono ?_;rw[<-ER.h];rintro e u⟨rfl,rfl⟩;refine Yo hK (dH.J _ _) ?_;refine Zr [8] 7 ?_;refine Yr ?_;refine Zf [11,20] 6 ?_;refine Zo (fun K hK=>?_) ?_
   ·go_simp
    refine(dg top 0 9 _ (by omega) (by omega) (by omega)).mono ?_;rw[<-EP.h];rintro e u⟨rfl,rfl⟩;refine Yo hK (dH.J _ _) ?_;refine Zf [14,20] 5 ?_;refine Zo (fun K hK=>?_) ?_
    ·go_simp
     refine(dg le 0 4 _ (by omega) (by omega) (by omega)).mono ?_;rw[<-EL.h];rintro e u⟨rfl,rfl⟩;refine Yo hK (dH.J _ _) ?_;refine Zr [15] 4 ?_;refine Yr ?_;refine Zf [18,20] 3 ?_;refine Zo (fun K hK=>?_) ?_
     ·go_simp
      refine(dg pa 0 100 _ (by omega) (by omega) (by omega)).mono ?_;rw[<-EA.h];rintro e u⟨rfl,rfl⟩;refine Yo hK (dH.J _ _) ?_;refine Zr [19] 2 ?_;refine Yr ?_;refine Zf [20] 1 ?_;refine Zo (fun K hK=>?_) ?_
      ·go_simp
       refine Yo hK (rM (bu D.h.symm) _) ?_;refine Zf [21] 0 ?_;refine Zo (fun K hK=>?_) ?_
       ·go_simp
        refine Yo hK (rN (bu D.h.symm) _ _) ?_;refine Ze ?_;go_wp2_with fail;go_meet;exact⟨by rw[D.h],(oc D.h _).1,(oc D.h _).2⟩
       exact aQ
      exact aQ
     refine Zo (fun K hK=>?_) ?_
     ·go_simp
      refine Yo hK (rM (bu D.h.symm) _) ?_;refine Zf [18] 2 ?_;refine Zo (fun K hK=>?_) ?_
      ·go_simp
       refine(dg pa 0 100 _ (by omega) (by omega) (by omega)).mono ?_;rw[<-EA.h];rintro e u⟨rfl,rfl⟩;refine Yo hK (dH.J _ _) ?_;refine Zr [19] 1 ?_;refine Yr ?_;refine Zf [21] 0 ?_;refine Zo (fun K hK=>?_) ?_
       ·go_simp
        refine Yo hK (rN (bu D.h.symm) _ _) ?_;refine Ze ?_;go_wp2_with fail;go_meet;exact⟨by rw[D.h],(oc D.h _).1,(oc D.h _).2⟩
       exact aQ
      exact aQ
     exact aQ
    refine Zo (fun K hK=>?_) ?_
    ·go_simp
     refine Yo hK (rM (bu D.h.symm) _) ?_;refine Zf [14] 4 ?_;refine Zo (fun K hK=>?_) ?_
     ·go_simp
      refine(dg le 0 4 _ (by omega) (by omega) (by omega)).mono ?_;rw[<-EL.h];rintro e u⟨rfl,rfl⟩;refine Yo hK (dH.J _ _) ?_;refine Zr [15] 3 ?_;refine Yr ?_;refine Zf [18] 2 ?_;refine Zo (fun K hK=>?_) ?_
      ·go_simp
       refine(dg pa 0 100 _ (by omega) (by omega) (by omega)).mono ?_;rw[<-EA.h];rintro e u⟨rfl,rfl⟩;refine Yo hK (dH.J _ _) ?_;refine Zr [19] 1 ?_;refine Yr ?_;refine Zf [21] 0 ?_;refine Zo (fun K hK=>?_) ?_
       ·go_simp
        refine Yo hK (rN (bu D.h.symm) _ _) ?_;refine Ze ?_;go_wp2_with fail;go_meet;exact⟨by rw[D.h],(oc D.h _).1,(oc D.h _).2⟩
       exact aQ
      exact aQ
     exact aQ
    exact aQ
   refine Zo (fun K hK=>?_) ?_
   ·go_simp
    refine Yo hK (rM (bu D.h.symm) _) ?_;refine Zf [11] 5 ?_;refine Zo (fun K hK=>?_) ?_
    ·go_simp
     refine(dg top 0 9 _ (by omega) (by omega) (by omega)).mono ?_;rw[<-EP.h];rintro e u⟨rfl,rfl⟩;refine Yo hK (dH.J _ _) ?_;refine Zf [14] 4 ?_;refine Zo (fun K hK=>?_) ?_
     ·go_simp
      refine(dg le 0 4 _ (by omega) (by omega) (by omega)).mono ?_;rw[<-EL.h];rintro e u⟨rfl,rfl⟩;refine Yo hK (dH.J _ _) ?_;refine Zr [15] 3 ?_;refine Yr ?_;refine Zf [18] 2 ?_;refine Zo (fun K hK=>?_) ?_
      ·go_simp
       refine(dg pa 0 100 _ (by omega) (by omega) (by omega)).mono ?_;rw[<-EA.h];rintro e u⟨rfl,rfl⟩;refine Yo hK (dH.J _ _) ?_;refine Zr [19] 1 ?_;refine Yr ?_;refine Zf [21] 0 ?_;refine Zo (fun K hK=>?_) ?_
       ·go_simp
        refine Yo hK (rN (bu D.h.symm) _ _) ?_;refine Ze ?_;go_wp2_with fail;go_meet;exact⟨by rw[D.h],(oc D.h _).1,(oc D.h _).2⟩
       exact aQ
      exact aQ
     exact aQ
    exact aQ
   exact aQ
  refine Zo (fun K hK=>?_) ?_
  ·go_simp
   refine Yo hK (rM (bu D.h.symm) _) ?_;refine Zf [7] 7 ?_;refine Zo (fun K hK=>?_) ?_
   ·go_simp
    refine(dg ru 0 2 _ (by omega) (by omega) (by omega)).mono ?_;rw[<-ER.h];rintro e u⟨rfl,rfl⟩;refine Yo hK (dH.J _ _) ?_;refine Zr [8] 6 ?_;refine Yr ?_;refine Zf [11] 5 ?_;refine Zo (fun K hK=>?_) ?_
    ·go_simp
     refine(dg top 0 9 _ (by omega) (by omega) (by omega)).mono ?_;rw[<-EP.h];rintro e u⟨rfl,rfl⟩;refine Yo hK (dH.J _ _) ?_;refine Zf [14] 4 ?_;refine Zo (fun K hK=>?_) ?_
     ·go_simp
      refine(dg le 0 4 _ (by omega) (by omega) (by omega)).mono ?_;rw[<-EL.h];rintro e u⟨rfl,rfl⟩;refine Yo hK (dH.J _ _) ?_;refine Zr [15] 3 ?_;refine Yr ?_;refine Zf [18] 2 ?_;refine Zo (fun K hK=>?_) ?_
      ·go_simp
       refine(dg pa 0 100 _ (by omega) (by omega) (by omega)).mono ?_;rw[<-EA.h];rintro e u⟨rfl,rfl⟩;refine Yo hK (dH.J _ _) ?_;refine Zr [19] 1 ?_;refine Yr ?_;refine Zf [21] 0 ?_;refine Zo (fun K hK=>?_) ?_
       ·go_simp
        refine Yo hK (rN (bu D.h.symm) _ _) ?_;refine Ze ?_;go_wp2_with fail;go_meet;exact⟨by rw[D.h],(oc D.h _).1,(oc D.h _).2⟩
       exact aQ
      exact aQ
     exact aQ
    exact aQ
   exact aQ
  exact aQ
 obtain⟨rfl,BX,HX⟩:=hcut;have hX:=HX.h;obtain⟨ay,bQ⟩:=Zn (⟨#[206,169]⟩:ByteArray);obtain⟨t1,e1⟩:=Zn (1+t');obtain⟨t2,e2⟩:=Zn (-20*(1+t'));obtain⟨t3,e3⟩:=Zn (100*(1+t'));rw[<-bQ,<-e2,<-e3,<-e1] at hX;rw[<-e1];have bt:1<=t1/\t1<=10:=by omega
 have E1:=ao (And.intro bQ (And.intro e1 (And.intro e2 e3)));have BT:=ao bt;clear bQ e1 e2 e3;have c5:wc.cell? ⟨G,5,none⟩=some (Iz 0):=by simp[World.cell?,hX]
 have f5:wc.frozen? ⟨G,5,none⟩=false:=by simp[World.frozen?,hX]
 have l5:wc.cell? ⟨g,5,none⟩=some (Iz wi):=Yb BX a7 (by simp[World.cell?,dT.h]);have b8:=ao hX;clear HX hX a2 bH;go_wp2_with fail;refine(dg wi 0 60 _ (by omega) (by omega) (by omega)).mono ?_;rw[<-EI.h];rintro e u⟨rfl,rfl⟩
 go_upto_region 5 with(fail)
 obtain⟨T4,bR⟩:=Zn (wrap64 (t1*(5+i')));rw[<-bR];have b9:T4=t1*(5+i'):=by rw[bR];exact Qg bt b7
 have d3:=ao b9;clear bR b9;have cd:(wc.setCell ⟨G,5,none⟩ (Iz T4)).heap[G]?=some (.cells #[.string ay, .slice none 0 0,Iz t1,Iz t2,Iz t3,Iz T4,Iz (1+r'),Iz p',Iz (1+l'),Iz a', .slice none 0 0] 25 (0,0)):=by
  rw[heap_setCell_same _ _ _ _ _ _ b8.h];rfl
 have B3:Below G W0 (wc.setCell ⟨G,5,none⟩ (Iz T4)):=BX.setCell (by exact af _) _;have cf:=ao cd
 generalize wc.setCell ⟨G,5,none⟩ (Iz T4)=w3 at*
 clear cd c5 f5 l5 b8 BX b7 b3 b4 b5 b6;go_wp2_with fail
 go_loopw [6] (fun i wr=> ∃(k:Nat) (Am:Option Addr) (cm:Nat) (As:Option Addr) (cs:Nat),(k:Int)<=2+n'/\i= Iz k/\
  Hid (wr.heap[G]?=some (.cells #[.string ay, .slice Am k cm,Iz t1,Iz t2,Iz t3,Iz T4,Iz (1+r'),Iz p',Iz (1+l'),Iz a', .slice As k cs] 25 (0,0)))/\
  Hid (wr.ownsRow (G+1) 3 1 (.slice Am k cm) k (bZ (NU k)))/\Hid (wr.ownsRow (G+1) 2 1 (.slice As k cs) k (bZ (NV t1 k)))/\Below G W0 wr) (fun i _=>(2+n' - intOf i).toNat)
 case atStart=>exact⟨0,none,0,none,0,by omega,rfl,cf,aM _ _ _ _,aM _ _ _ _,B3⟩
 case round=>
  obtain⟨k,Am,cm,As,cs,hk,rfl,HR,HM,HS,B⟩:=hrel;clear B3 cf;have ax:=HM.h;have owns:=HS.h;have ck:G<wr.heap.size:=(aU.1 HR.h).1
  by_cases ed:(k:Int)<2+n'
  ·have c1:wr.cell? ⟨G,1,none⟩=some (.slice Am k cm):=by simp[World.cell?,HR.h]
   have f1:wr.frozen? ⟨G,1,none⟩=false:=by simp[World.frozen?,HR.h]
   clear HM HS
   go_upto_region 9 with(at_builtin;refine mN Vp ax _ rfl _ _ rfl rfl rfl rfl (by omega) (by omega) ?_;intro A4 c4 w4 bf g4 b4;have kd:=g4.block G ck (mM ax (by omega));have k1:=Yd kd c1;have cl:=(aY (a:=⟨G,1,none⟩) kd).trans f1;have KD:=ao kd;clear kd)
   have a8:=uQ owns g4 (Ak owns ax (by decide));have ba:(w4.setCell ⟨G,1,none⟩ (.slice A4 (k+1) c4)).heap[G]?=some (.cells #[.string ay, .slice A4 (k+1) c4,Iz t1,Iz t2,Iz t3,Iz T4,Iz (1+r'),Iz p',Iz (1+l'),Iz a', .slice As k cs] 25 (0,0)):=by
    rw[heap_setCell_same _ _ _ _ _ _ (KD.h.trans HR.h)];rfl
   have bh:=ownsRow_setCell_below (a:=⟨G,1,none⟩) bf (by show G<G+1;omega) (.slice A4 (k+1) c4);have a5:=ownsRow_setCell_below (a:=⟨G,1,none⟩) a8 (by show G<G+1;omega) (.slice A4 (k+1) c4);have B5:Below G W0 (w4.setCell ⟨G,1,none⟩ (.slice A4 (k+1) c4)):=(b4 G W0 (by omega) B).setCell (by exact af _) _
   generalize w4.setCell ⟨G,1,none⟩ (.slice A4 (k+1) c4)=w5 at*
   have wJ:w5.cell? ⟨G,10,none⟩=some (.slice As k cs):=by simp[World.cell?,ba]
   have cn:w5.frozen? ⟨G,10,none⟩=false:=by simp[World.frozen?,ba]
   have d4:G<w5.heap.size:=(aU.1 ba).1;have d5:=ao ba;clear bf g4 b4 a8 owns ax k1 cl KD c1 f1 HR B ba
   go_wp2_with (at_builtin;refine mN Ed a5 _ rfl _ _ rfl rfl rfl rfl (by omega) (by omega) ?_;intro A6 c6 w6 ct g6 b6;have kd:=g6.block G d4 (mM a5 (by omega));have k1:=Yd kd wJ;have cl:=(aY (a:=⟨G,10,none⟩) kd).trans cn;have KD:=ao kd;clear kd)
   have bU:=uQ bh g6 (Ak bh a5 (by decide));have d6:(w6.setCell ⟨G,10,none⟩ (.slice A6 (k+1) c6)).heap[G]?=some (.cells #[.string ay, .slice A4 (k+1) c4,Iz t1,Iz t2,Iz t3,Iz T4,Iz (1+r'),Iz p',Iz (1+l'),Iz a', .slice A6 (k+1) c6] 25 (0,0)):=by
    rw[heap_setCell_same _ _ _ _ _ _ (KD.h.trans d5.h)];rfl
   have cv:=ownsRow_setCell_below (a:=⟨G,10,none⟩) ct (by show G<G+1;omega) (.slice A6 (k+1) c6);have bV:=ownsRow_setCell_below (a:=⟨G,10,none⟩) bU (by show G<G+1;omega) (.slice A6 (k+1) c6);have B7:Below G W0 (w6.setCell ⟨G,10,none⟩ (.slice A6 (k+1) c6)):=(b6 G W0 (by omega) B5).setCell (by exact af _) _;go_roundw
   case rel=>exact⟨k+1,A4,c4,A6,c6,by omega,by go_num,d6,ao (by rw[Qe];exact bV),ao (by rw[Qf,<-Ti BT.h (by omega)];exact cv),B7⟩
   case measure=>simp[intOf];omega
  ·have I:=(B.block (g+1) b0).trans d2.h
   have k0:wr.cell? ⟨G,0,none⟩=some (.string ay):=by simp[World.cell?,HR.h]
   have k1:wr.cell? ⟨G,1,none⟩=some (.slice Am k cm):=by simp[World.cell?,HR.h]
   have k2:wr.cell? ⟨G,2,none⟩=some (Iz t1):=by simp[World.cell?,HR.h]
   have k3:wr.cell? ⟨G,3,none⟩=some (Iz t2):=by simp[World.cell?,HR.h]
   have k4:wr.cell? ⟨G,4,none⟩=some (Iz t3):=by simp[World.cell?,HR.h]
   have k5:wr.cell? ⟨G,5,none⟩=some (Iz T4):=by simp[World.cell?,HR.h]
   have k6:wr.cell? ⟨G,6,none⟩=some (Iz (1+r')):=by simp[World.cell?,HR.h]
   have k7:wr.cell? ⟨G,7,none⟩=some (Iz p'):=by simp[World.cell?,HR.h]
   have k8:wr.cell? ⟨G,8,none⟩=some (Iz (1+l')):=by simp[World.cell?,HR.h]
   have k9:wr.cell? ⟨G,9,none⟩=some (Iz a'):=by simp[World.cell?,HR.h]
   have ef:wr.cell? ⟨G,10,none⟩=some (.slice As k cs):=by simp[World.cell?,HR.h]
   have z0:wr.cell? ⟨g+1,0,none⟩=some (.string ⟨#[]⟩):=by simp[World.cell?,I]
   have z1:wr.cell? ⟨g+1,1,none⟩=some (.slice none 0 0):=by simp[World.cell?,I]
   have z2:wr.cell? ⟨g+1,2,none⟩=some (Iz 0):=by simp[World.cell?,I]
   have z3:wr.cell? ⟨g+1,3,none⟩=some (Iz 0):=by simp[World.cell?,I]
   have z4:wr.cell? ⟨g+1,4,none⟩=some (Iz 0):=by simp[World.cell?,I]
   have z5:wr.cell? ⟨g+1,5,none⟩=some (Iz 0):=by simp[World.cell?,I]
   have z6:wr.cell? ⟨g+1,6,none⟩=some (Iz 0):=by simp[World.cell?,I]
   have z7:wr.cell? ⟨g+1,7,none⟩=some (Iz 0):=by simp[World.cell?,I]
   have z8:wr.cell? ⟨g+1,8,none⟩=some (Iz 0):=by simp[World.cell?,I]
   have z9:wr.cell? ⟨g+1,9,none⟩=some (Iz 0):=by simp[World.cell?,I]
   have ej:wr.cell? ⟨g+1,10,none⟩=some (.slice none 0 0):=by simp[World.cell?,I]
   have f0:wr.frozen? ⟨g+1,0,none⟩=false:=by simp[World.frozen?,I]
   have f1:wr.frozen? ⟨g+1,1,none⟩=false:=by simp[World.frozen?,I]
   have f2:wr.frozen? ⟨g+1,2,none⟩=false:=by simp[World.frozen?,I]
   have f3:wr.frozen? ⟨g+1,3,none⟩=false:=by simp[World.frozen?,I]
   have f4:wr.frozen? ⟨g+1,4,none⟩=false:=by simp[World.frozen?,I]
   have f5:wr.frozen? ⟨g+1,5,none⟩=false:=by simp[World.frozen?,I]
   have f6:wr.frozen? ⟨g+1,6,none⟩=false:=by simp[World.frozen?,I]
   have f7:wr.frozen? ⟨g+1,7,none⟩=false:=by simp[World.frozen?,I]
   have f8:wr.frozen? ⟨g+1,8,none⟩=false:=by simp[World.frozen?,I]
   have f9:wr.frozen? ⟨g+1,9,none⟩=false:=by simp[World.frozen?,I]
   have cn:wr.frozen? ⟨g+1,10,none⟩=false:=by simp[World.frozen?,I]
   have BZ:Bz w wr:=BW.trans (B.mono (by have:=EG.h;omega));have D0:aE wr (g+1) 25 #[.string ⟨#[]⟩, .slice none 0 0,Iz 0,Iz 0,Iz 0,Iz 0,Iz 0,Iz 0,Iz 0,Iz 0, .slice none 0 0]:=I;have hw:=bO (us:=[.string ay, .slice Am k cm,Iz t1,Iz t2,Iz t3,Iz T4,Iz (1+r'),Iz p',Iz (1+l'),Iz a', .slice As k cs]) D0 rfl;have hb:=bA (us:=[.string ay, .slice Am k cm,Iz t1,Iz t2,Iz t3,Iz T4,Iz (1+r'),Iz p',Iz (1+l'),Iz a', .slice As k cs]) (i:=0) (show w.heap.size<=g+1 by have:=EG.h;omega) BZ;have hv:=AM (F:=fun q=>q=g+1) (us:=[.string ay, .slice Am k cm,Iz t1,Iz t2,Iz t3,Iz T4,Iz (1+r'),Iz p',Iz (1+l'),Iz a', .slice As k cs]) (i:=0) rfl (Lv.refl _ wr);simp only[fW] at hw hb hv;have cF:∀q,qP Am q->G+1<=q:=fun q hq=>(pj ax hq).1;have cH:∀q,qP As q->G+1<=q:=fun q hq=>(pj owns hq).1;have cQ:iZ wr PX Am As:=by
    have cS:k=(2+n').toNat:=by omega
    refine⟨?_,?_,dS.h⟩
    ·rw[bb.h]
     show Cells wr Am (bZ ((List.range (2+n').toNat).map fun i:Nat=>10*(i:Int)+3));rw[<-cS];exact Cells.O ax
    ·rw[bb.h]
     show Cells wr As (bZ ((List.range (2+n').toNat).map fun i:Nat=>(1+t')*(10+(i:Int))));rw[<-cS,<-E1.h.2.1];exact Cells.O owns
   have cT:PX.E.length=k/\PX.settle.length=k:=by
    rw[bb.h];simp[zn];omega
   have d7:=ao cQ;have cX:=ao cF;have c0:=ao cH;have dc:=ao cT;clear HM HS ax owns HR B I ck BZ D0 cQ cF cH cT;go_wp2_with fail;obtain⟨wz,dp⟩:=Zn (((((((((((wr.setCell ⟨g+1,0,none⟩ (.string ay)).setCell ⟨g+1,0+1,none⟩ (.slice Am k cm)).setCell ⟨g+1,0+1+1,none⟩ (Iz t1)).setCell ⟨g+1,0+1+1+1,none⟩ (Iz t2)).setCell ⟨g+1,0+1+1+1+1,none⟩ (Iz t3)).setCell ⟨g+1,0+1+1+1+1+1,none⟩ (Iz T4)).setCell ⟨g+1,0+1+1+1+1+1+1,none⟩ (Iz (1+r'))).setCell ⟨g+1,0+1+1+1+1+1+1+1,none⟩ (Iz p')).setCell ⟨g+1,0+1+1+1+1+1+1+1+1,none⟩ (Iz (1+l'))).setCell ⟨g+1,0+1+1+1+1+1+1+1+1+1,none⟩ (Iz a')).setCell ⟨g+1,0+1+1+1+1+1+1+1+1+1+1,none⟩ (.slice As k cs));rw[<-dp] at hw hb hv;refine iv dp ?_;have y0:=hw.cell 0;have y1:=hw.cell 1;have y2:=hw.cell 2;have y3:=hw.cell 3;have y4:=hw.cell 4;have y5:=hw.cell 5;have y6:=hw.cell 6;have y7:=hw.cell 7;have y8:=hw.cell 8;have y9:=hw.cell 9;have d8:=hw.cell 10;refine bodyPost_ret (v:= .agg #[.string ay, .slice Am k cm,Iz t1,Iz t2,Iz t3,Iz T4,Iz (1+r'),Iz p',Iz (1+l'),Iz a', .slice As k cs]) (by simp[results,Tryz.results14,go_sem,y0,y1,y2,y3,y4,y5,y6,y7,y8,y9,d8];try rfl) rfl ?_;refine⟨Am,cm,As,cs,?_,?_,fun q hq=>?_,hb⟩
   ·obtain⟨f0,f1,f2,f3⟩:=E1.h
    unfold PD.val;rw[dc.h.1,dc.h.2,bb.h,f0,f2,f3,d3.h,f1];rfl
   ·refine d7.h.same (fun q hq hl=>hv.block q hl (fun e=>?_)) hv.size
    have e':q=g+1:=e;rcases hq with hq|hq
    ·have:=cX.h q hq;omega
    ·have:=c0.h q hq;omega
   ·have:=EG.h
    rcases hq with hq|hq
    ·have:=cX.h q hq;omega
    ·have:=c0.h q hq;omega
end Go.Proofs.YtbaaheidifacaaaGreat
