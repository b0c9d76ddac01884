import Derived.Test.YtbaaheidifacaaaGreatQRunYC8
import Derived.Test.YtbaaheidifacaaaGreatQArgsT
import Derived.Test.YtbaaheidifacaaaGreatQAwk1
import Derived.Test.YtbaaheidifacaaaGreatQLawShow
set_option linter.defProp false
set_option linter.unusedVariables false
set_option linter.unusedSimpArgs false
set_option maxRecDepth 100000
set_option maxHeartbeats 12800000
namespace Go.Proofs.YtbaaheidifacaaaGreat
variable {A:Option Addr} {B c j k x:Nat} {L:List Dx} {P:PD} {S:Sm} {l:List bN} {r:mE} {w:World} {xs:List Value}
open Go.RowKit
theorem acO {D:Nat} {w':World} (e:B=D) (h:Below B w w'):Below D w w':=e▸h
theorem rL.Y0 {g:Nat} {C:zt} {Gs R:Nat->Prop} (h:rL B w g P C Gs R l A c) (D:∀(i:Nat) (y:bN),l[i]?=some y->i<=1000/\wZ P i y):Tl P l:=
 ⟨fun n=>(h.fine n).f,fun n=>(h.fine n).su,D⟩
theorem Qx (D:P.gZ) (l:List bN) (n:Nat) (hn:n<=1000):∀(i:Nat) (y:bN),(js P l n)[i]?=some y->i<=1000/\wZ P i y:=fun i y h=>by
 obtain⟨J,I⟩:=Tk D h;exact⟨ae,I⟩
theorem N3 (h:∀(i:Nat) (y:bN),l[i]?=some y->i<=1000/\wZ P i y):∀q∈l,q.aw<=12000/\q.ky.length<=9223372036854775807:=fun q hq=>by
 obtain⟨i,hi,rfl⟩:=kv.1 hq;exact(h i _ (aj hi)).2.ab0
def aby (e:Dx) (k:Nat):CT:=if k=0 then e.1 else e.2
theorem acH (h:nt w B A c L) (hx:x<L.length):
  ∃b o e,A=some ⟨b,o,none⟩/\b<w.heap.size/\L[x]?=some e/\∀k,k<2->∀t v,t<5->(aby e k).cells[t]?=some v->w.cell? ⟨b,o+(x*10+(k*5+t)),none⟩=some v:=by
 have I:=Mn L;have D:SR L≠[]:=by intro e;rw[e] at I;simp at I;omega
 obtain⟨b,o,rfl,J,hc⟩:=dP.O h.row D;have hr:L[x]?=some L[x]:=aj hx;refine⟨b,o,L[x],rfl,J,hr,fun k hk t v ht hv=>hc _ _ ((ig wX (k*5+t) ae hr).trans ?_)⟩;unfold Yx;unfold aby at hv;have h1:k=0\/k=1:=ae;rcases h1 with rfl|rfl
 ·rw[if_pos rfl] at hv
  rw[bX (by show _<5;omega),kp,ec];exact hv
 ·rw[if_neg ae] at hv
  rw[bK (by show 5<=_;omega),show 1*5+t - (L[x].1.cells).length=t by show 1*5+t - 5=t;omega];exact hv
theorem acI (h:ke L=kN P S) {e:Dx} (he:L[x]?=some e) (hx:x<P.count) (J:k<2):(aby e k).sd=kK P S x k:=by
 have D:=congrArg (fun l=>l[x]?) h;simp only[ke,bo,he,SS hx,fc,gf,Prod.mk.injEq] at D;unfold aby;have I:k=0\/k=1:=ae;rcases I with rfl|rfl
 ·exact D.1
 ·exact D.2
theorem acJ {y:CT} (h:CU w B y) (J:j<y.sd.lv.length):
  ∃b o r,y.A=some ⟨b,o,none⟩/\b<w.heap.size/\y.sd.lv[j]?=some r/\∀t v,t<3->r.cells[t]?=some v->w.cell? ⟨b,o+(j*3+t),none⟩=some v:=by
 have I:=GO y.sd.lv;have D:jO y.sd.lv≠[]:=by intro e;rw[e] at I;simp at I;omega
 obtain⟨b,o,hA,hb,hc⟩:=dP.O h D;have hr:y.sd.lv[j]?=some y.sd.lv[j]:=aj J;exact⟨b,o,_,hA,hb,hr,fun t v ht hv=>hc _ _ ((ig (f:=mE.cells) (fun _=>rfl) t ht hr).trans hv)⟩
theorem acv {base:Nat} {e:TypeId} {size:Nat} {n:Nat} (h:w.ownsRow base e size (.slice A n c) n xs):n<=9223372036854775807:=by
 rcases jF n with D|D
 ·omega
 ·obtain⟨b,rfl,_,_⟩:=kz h D
  have I:=ju h;obtain⟨_,_,_,_,O,J,_⟩:=I;unfold maxLen at J;omega
def ZO (l:List mE) (j:Nat):Int:=((l.take j).map (·.aw)).sum
theorem abz {l:List mE} (h:l[j]?=some r):ZO l (j+1)=ZO l j+r.aw:=by
 unfold ZO;rw[bC,h];simp
theorem acw (hs:SB 12 S) (hc:cK S<=40) (hx:x<S.length) (j:Nat):0<=ZO (kK P S x k).lv j/\ZO (kK P S x k).lv j<=480:=by
 obtain⟨M,D⟩:∃M,S[x]?=some M:=⟨_,aj hx⟩;have e:(kK P S x k).lv=(M.side k).map vH:=by unfold kK;rw[D]
 unfold ZO;rw[e];have O:=aci (c:=12) ae (l:=M.side k) j fun a ha=>by
  obtain⟨r,I,J⟩:=dD.1 ha;exact(hs.at_ D I).2 a J
 have I:=aaF D k;omega
theorem acx (hs:SB 12 S) (h:(kK P S x k).lv[j]?=some r):1<=r.aw:=by
 unfold kK at h
 cases D:S[x]? with
 |none=>rw[D] at h;simp at h
 |some M=>
  rw[D] at h;simp only[bo] at h
  cases I:(M.side k)[j]? with
  |none=>rw[I] at h;cases h
  |some q=>
   rw[I] at h;injection h with h;subst h;obtain⟨O,J⟩:=hs.at_ D (aH I);show 1<=mq q.2
   cases hq:q.2 with
   |nil=>exact absurd hq O
   |cons a l=>
    rw[hq] at J;have h3:=J a bT;have h4:=(aa7 (c:=12) ae (L:=l) fun y hy=>J y (by simp[hy])).1;have e1:mq (a::l)=a.aw+mq l:=by simp[mq]
    omega
theorem aaK (p:kU) (A:Option Addr) (n c:Nat) (w:World) (h0:p.Ok w) (h1:Commands w A n c):
  Wz 11 #[p.val, .slice A n c] w fun e w'=>e= .returned (.bool true)/\Bz w w':=by
 obtain⟨hle,bt,l,rfl,hA,d3⟩:=h1;have hM:l.length<=9223372036854775807:=by unfold maxLen at bt;omega
 have ay:=fun u=>Qh p u h0;obtain⟨P,eP⟩:∃P,P=p.prod:=⟨_,rfl⟩;rw[<-eP] at ay;obtain⟨a2,EP,HA,hG,hH⟩:=rU ay eP hA d3 (And.intro hle bt);clear ay eP hA d3 hle bt h0;obtain⟨pc,gi,mn,gj,gq,gA,gG,gI,gO,gP,gR,gT,g3,g4,g6⟩:=p;simp only[kU.val] at a2⊢;obtain⟨w0,ct⟩:∃v,v=w.alloc (.cells #[.string pc, .slice gi mn gj,Iz gq,Iz gA,Iz gG,Iz gI,Iz gO,Iz gP,Iz gR,Iz gT, .slice g3 g4 g6] 25):=⟨_,rfl⟩;obtain⟨gx,eg⟩:∃v,v=w.heap.size:=⟨_,rfl⟩;have D0:=Zq ct eg;have B0:=Zw ct;have k0:=D0.cell;have cv:=ao B0;clear D0 B0
 go_enter Tryz.func11,Tryz.ntmps11
 go_upto_region 1 with(fail)
 rw[<-ct,<-eg];clear ct eg;go_wp2_with fail;refine(a2 w0).mono ?_;clear k0;rintro e w1⟨ma,mc,sa,sc,rfl,cF,d4,b1⟩;have HR:=ao cF.right;simp only[PD.val]
 go_upto_region 2 with(fail)
 obtain⟨w2,bE⟩:∃v,v=w1.alloc (.cells (P.cells ma mc sa sc) 25):=⟨_,rfl⟩;obtain⟨I,bH⟩:∃v,v=w1.heap.size:=⟨_,rfl⟩;have D2:fM w2 I P ma mc sa sc:=bE▸bH▸fM.new _ _ _ _ _ _;have B2:=Zw bE;unfold PD.cells at bE;rw[<-bE,<-bH];obtain⟨eQ,ei,ej⟩:=fY D2 (cF.below B2) (dW (dW cv b1) B2);have hN:Hid (∀q,qP ma q\/qP sa q->w.heap.size<=q/\q<I):=ao fun q hq=>⟨jE (d4 q hq) cv.h.size,bH▸cF.Xc q hq⟩;have hI:Hid (w.heap.size<=I):=ao (bH▸aF cv.size b1.size);clear D2 B2 bE bH cF d4 b1 cv a2;have D2:=eQ.h;obtain⟨B,eB⟩:∃B,B=w2.heap.size:=⟨_,rfl⟩;have J:I<B:=eB▸D2.lt;have z0:∀u,Below B w2.drew u->Cz u I 0 (.string (str P.code)):=fun u hu=>Yb hu J (D2.cell 0);have z1:∀u,Below B w2.drew u->Cz u I 1 (.slice ma P.E.length mc):=fun u hu=>Yb hu J (D2.cell 1);have z2:∀u,Below B w2.drew u->Cz u I 2 (Iz P.tick):=fun u hu=>Yb hu J (D2.cell 2);have z3:∀u,Below B w2.drew u->Cz u I 3 (Iz P.low):=fun u hu=>Yb hu J (D2.cell 3);have z4:∀u,Below B w2.drew u->Cz u I 4 (Iz P.high):=fun u hu=>Yb hu J (D2.cell 4);have z5:∀u,Below B w2.drew u->Cz u I 5 (Iz P.wide):=fun u hu=>Yb hu J (D2.cell 5);have z6:∀u,Below B w2.drew u->Cz u I 6 (Iz P.rule):=fun u hu=>Yb hu J (D2.cell 6);have z7:∀u,Below B w2.drew u->Cz u I 7 (Iz P.top):=fun u hu=>Yb hu J (D2.cell 7);have z8:∀u,Below B w2.drew u->Cz u I 8 (Iz P.least):=fun u hu=>Yb hu J (D2.cell 8);have z9:∀u,Below B w2.drew u->Cz u I 9 (Iz P.part):=fun u hu=>Yb hu J (D2.cell 9);have ek:∀u,Below B w2.drew u->Cz u I 10 (.slice sa P.settle.length sc):=fun u hu=>Yb hu J (D2.cell 10);obtain⟨bQ,g7⟩:=dF eB J;clear eB J D2;refine Zb B 99999 [3,4] [0,1,2,3,4,5,6,7,8,9] ?_;refine Yt ?_;clear z0 z1 z2 z3 z4 z5 z6 z7 z8 z9 ek;refine Ym fun K hK=>?_;refine(Te P ma mc sa sc A l.length c l 40 w2.drew ei.drew rfl ((HA.below ej).drew) ae).mono ?_;rintro e v7⟨Ac,cc,rfl,a7,b7⟩;obtain⟨cl,cH⟩:∃x,x=js P l 40:=⟨_,rfl⟩;rw[<-cH] at a7⊢;have a3:cl.length<=40:=cH▸MA P l 40;have eR:∀(i:Nat) (y:bN),cl[i]?=some y->i<=1000/\wZ P i y:=cH▸Qx HR l 40 ae;obtain⟨M,eM⟩:∃x,x=cl.length:=⟨_,rfl⟩;rw[<-eM] at a7 a3⊢;have eS:=dP.O a7;have eT:=ei.h.drew.below b7;have eU:Below B w2 v7:=bQ.h▸(aa _ w2).drew.trans b7;obtain⟨d5,el,EM,eV,a4,bR⟩:=FW eS eR eM eT eU a3;refine Yo hK (b7.mono (bu bQ)) ?_;clear a7 eS eR eM eT cH a3 eU b7;refine Ym fun K hK=>?_;refine(J1 P ma mc sa sc Ac M cc cl v7 eV EM.symm d5 (by rw[<-EM.h];have:=bR.h;omega) (N3 el)).mono ?_;rintro e v8⟨g,Aa,ca,C,Gs,R,rfl,eo,b8⟩;have ep:B<=v7.heap.size:=bQ.h▸a4.size;refine Yo hK (b8.mono ep) ?_;refine Yt ?_;refine aT ?_;have er:=eo.Y0 el;have a8:=aay er;have cQ:=er.sb cl.length;rw[dE] at cQ;have ba:=eo.ZC;have bU:=ba.V2.f;obtain⟨m,em⟩:∃x,x=(runM P (Mk.new P) cl).1:=⟨_,rfl⟩;rw[<-em] at a8 cQ ba bU;replace a8:cK m.S<=40:=jE bR.h EM.h;have cS:Below B w2 v8:=a4.trans (b8.mono ep);have eW:Bz w v8:=ej.trans (cS.mono (bQ.h▸ej.size));have D8:fM v8 I P ma mc sa sc:=eQ.block (cS.block I g7);have eY:iZ v8 P ma sa:=ei.below (acO bQ cS);obtain⟨e0,d6,et,bV,e3,e4,e5⟩:=yY ba a8 cQ bU eW D8 eY;clear er eo a8 cQ ba bU em cS eW D8 eY b8 ep d5 eV a4 el EM bR;go_wp2_with fail;refine(Z5 g P m Gs R C v8 e0).mono ?_;rintro e w5⟨s',G',R',rfl,b2,g8,b5⟩;have Dp:=e4.h.below b5;have z0:Cz w5 I 0 (.string (str P.code)):=Dp.cell 0;have z1:Cz w5 I 1 (.slice ma P.E.length mc):=Dp.cell 1;have z2:Cz w5 I 2 (Iz P.tick):=Dp.cell 2;have z3:Cz w5 I 3 (Iz P.low):=Dp.cell 3;have z4:Cz w5 I 4 (Iz P.high):=Dp.cell 4;have z5:Cz w5 I 5 (Iz P.wide):=Dp.cell 5;have z6:Cz w5 I 6 (Iz P.rule):=Dp.cell 6;have z7:Cz w5 I 7 (Iz P.top):=Dp.cell 7;have z8:Cz w5 I 8 (Iz P.least):=Dp.cell 8;have z9:Cz w5 I 9 (Iz P.part):=Dp.cell 9;have ek:Cz w5 I 10 (.slice sa P.settle.length sc):=Dp.cell 10;obtain⟨eu,g9,e6⟩:=fY b2 (e5.below b5) (dW e3 b5);clear b2 g8 b5 Dp e0 e5 e3 e4;go_wp2_with fail;refine(uM P ma mc sa sc s' m.S G' R' w5 g9 eu).mono ?_;clear z0 z1 z2 z3 z4 z5 z6 z7 z8 z9 ek;rintro e w6⟨A6,c6,L,rfl,hv,ew,b6⟩;have d7:=eu.h.below b6;have e7:=dW e6 b6;have e9:L.length=P.count:=by
  have h:=congrArg List.length ew;rw[GQ] at h;unfold ke at h
  rwa [br] at h
 obtain⟨N,eN⟩:∃v,v=L.length:=⟨_,rfl⟩;have hJ:N<=1000:=by have h1:=HR.h.n6;have h2:=HR.h.cnt;omega
 obtain⟨HV,hl,fa,ho,hy,EN⟩:=FW hv ew d7 e7 e9 eN;rw[<-eN];clear hv ew d7 e7 e9 eN b6 eu e6
 go_upto_region 7 with(fail)
 obtain⟨w7,cT⟩:∃v,v=w6.alloc (.cells #[.slice A6 N c6] 71):=⟨_,rfl⟩;obtain⟨gv,ez⟩:∃v,v=w6.heap.size:=⟨_,rfl⟩;have D7:=Zq cT ez;have B7:=Zw cT;refine jN cT ?_;rw[<-ez];obtain⟨ff,a4,hO⟩:=fY D7 B7 D7.lt;clear cT ez D7 B7;go_wp2_with fail
 go_loopw [10] (fun i wr=> ∃x:Nat,x<=N/\i= Iz x/\Hid (Bz w7 wr)) (fun i _=>N - (intOf i).toNat)
 case atStart=>exact⟨0,aB _,rfl,ao (aa _ _)⟩
 case round=>
  obtain⟨x,hx,rfl,HB⟩:=hrel;obtain⟨wo,rfl⟩:∃wo,wo=wr:=⟨_,rfl⟩;have a0:Cz wo gv 0 (.slice A6 N c6):=(ff.below HB).cell 0
  by_cases eA:x<N
  ·have i3:(x:Int)<N:=ae
   have eC:=ao eA;clear eA;go_wp2_with fail;clear a0
   go_loopw [11] (fun i wr=> ∃k:Nat,k<=2/\i= Iz ((k:Int)+1)/\Hid (Bz w7 wr)) (fun i _=>3 - (intOf i).toNat)
   case atStart=>exact⟨0,aB _,rfl,HB⟩
   case round=>
    obtain⟨k,hk,rfl,bb⟩:=hrel;obtain⟨wq,rfl⟩:∃wo,wo=wr:=⟨_,rfl⟩
    by_cases bc:k<2
    ·have eD:x<L.length:=by rw[<-EN.h];exact eC
     have bh:x<P.count:=hy.h▸eD;have bw:Bz w6 wq:=a4.trans (bb.mono a4.size);obtain⟨b,o,e,rfl,hb,he,b3⟩:=acH HV eD;have ax:=acI hl he bh bc;have eE:CU w6 w5.heap.size (aby e k):=by
      have h:=HV.h.lv e (aH he);unfold aby
      split
      ·exact h.1
      ·exact h.2
     obtain⟨y,ey⟩:∃v,v=aby e k:=⟨_,rfl⟩;rw[<-ey] at ax eE;have D:∀t v,t<5->y.cells[t]?=some v->Cz w6 b (o+(x*10+(k*5+t))) v:=fun t v ht hv=>b3 k bc t v ht (ey▸hv);clear b3 he ey;have mv:∀(a:Addr) (v:Value),a.block<w6.heap.size->w6.cell? a=some v->wq.cell? a=some v:=fun a v ha hv=>(bw.cell (p:=a) ha).trans hv;obtain⟨⟨lv,⟨ag,aw,count⟩,has⟩,Al,bp⟩:=y;simp only at ax;have himp:has=true->ng P m.S x (1 - k) ag aw=aw/\1<=aw/\aw<=480:=fun hh=>by
      have h1:(kK P m.S x k).has=true:=ax▸hh;have h2:=aa6 bV bh bc h1;have h3:=acM (c:=12) ae et h1;rw[<-ax] at h2 h3;simp only at h2 h3;have:=d6.h;exact⟨h2,ae,ae⟩
     have b4:∀j r,lv[j]?=some r->ng P m.S x (1 - k) r.ag (ZO lv (j+1))=ZO lv (j+1)/\1<=r.aw:=fun j r hr=>by
      have h1:(kK P m.S x k).lv[j]?=some r:=ax▸hr;have h2:=abm bV bh bc h1;rw[<-ax] at h2;exact⟨h2,acx et h1⟩
     have d8:∀j,0<=ZO lv j/\ZO lv j<=480:=fun j=>by
      have h:=acw (P:=P) (k:=k) et d6 (by rw[bV.h.sn];exact bh) j;rw[<-ax] at h;exact h
     obtain⟨nl,cX⟩:∃v,v=lv.length:=⟨_,rfl⟩;have y0:Cz wq b (o+x*10+k*5) (.slice Al nl bp):=by
      have h:=mv ⟨b,o+(x*10+(k*5+0)),none⟩ _ hb (D 0 _ ae rfl);rw[(ae:o+(x*10+(k*5+0))=o+x*10+k*5),<-cX] at h;exact h
     have y1:Cz wq b (o+x*10+k*5+1) (Iz ag):=by
      have h:=mv ⟨b,o+(x*10+(k*5+1)),none⟩ _ hb (D 1 _ ae rfl)
      rwa [(ae:o+(x*10+(k*5+1))=o+x*10+k*5+1)] at h
     have y2:Cz wq b (o+x*10+k*5+2) (Iz aw):=by
      have h:=mv ⟨b,o+(x*10+(k*5+2)),none⟩ _ hb (D 2 _ ae rfl)
      rwa [(ae:o+(x*10+(k*5+2))=o+x*10+k*5+2)] at h
     have y3:Cz wq b (o+x*10+k*5+3) (Iz count):=by
      have h:=mv ⟨b,o+(x*10+(k*5+3)),none⟩ _ hb (D 3 _ ae rfl)
      rwa [(ae:o+(x*10+(k*5+3))=o+x*10+k*5+3)] at h
     have y4:Cz wq b (o+x*10+k*5+4) (.bool has):=by
      have h:=mv ⟨b,o+(x*10+(k*5+4)),none⟩ _ hb (D 4 _ ae rfl)
      rwa [(ae:o+(x*10+(k*5+4))=o+x*10+k*5+4)] at h
     have a0:Cz wq gv 0 (.slice (some ⟨b,o,none⟩) N c6):=(ff.below bb).cell 0;have i4:(k:Int)+1<=2:=ae;have i5:IntKind.i64.wrap ((k:Int)+1 - 1)=(k:Int):=by rw[(ae:(k:Int)+1 - 1=k)];exact aN _ ae
     have i6:(k:Int)<2:=ae;have b2:=fa.h.below bw;have cd:w6.ownsRow w5.heap.size 75 3 (.slice Al lv.length bp) lv.length (jO lv):=eE;obtain⟨eF,eG⟩:∃v:Int,v=(if (k:Int)+1=1\/(k:Int)+1=2 then 3 - ((k:Int)+1) else (k:Int)+1):=⟨_,rfl⟩;have d9:eF=((1 - k:Nat):Int)+1:=by rw[eG];split<;>omega
     have hP:nl<=9223372036854775807:=cX▸acv cd;obtain⟨fi,fk,ea,eI,eb,fq,fx,ed,c0,fz,hz⟩:=Hl himp b4 d8 bw b2 cd eG d9 bc bh cX;clear himp b4 d8 bw b2 cd eG d9 ax eE D mv hb bc bh eD cX
     go_upto_region 14 with(fail)
     clear y0 y1 y2 y3 y4 a0 i5 i6 i4;obtain⟨va,dc⟩:∃v,v=wq.alloc (.cells #[.slice Al nl bp,Iz ag,Iz aw,Iz count, .bool has] 77):=⟨_,rfl⟩;obtain⟨gy,eJ⟩:∃v,v=wq.heap.size:=⟨_,rfl⟩;have Da:=Zq dc eJ;have Ba:=Zw dc;refine jN dc ?_;rw[<-eJ];obtain⟨cf,dp,fH⟩:=fY Da Ba Da.lt;clear dc eJ Da Ba
     as_aux_lemma=>
     go_cut [69] (fun v wx=>v= .bool false/\Hid (Bz va wx))
     case first=>
      obtain⟨Z,eZ⟩:∃v,v=va.heap.size:=⟨_,rfl⟩;have a5:gy<Z:=eZ▸fH;have EZ:=ao eZ;clear eZ
      cases has with
      |false=>
       have y4:Cz va gy 4 (.bool false):=cf.cell 4
       go_quiet (fail)
       go_wp2_with fail;go_meet;exact⟨rfl,ao (below_drewN (aa _ va) _)⟩
      |true=>
       obtain⟨fT,f0,f1⟩:=fi.h rfl;obtain⟨hB,f2⟩:=dF fT (And.intro f0 f1);clear fT f0 f1;have y1:∀u,Below Z va.drew u->Cz u gy 1 (Iz ag):=fun u hu=>Yb hu a5 (cf.cell 1);have y2:∀u,Below Z va.drew u->Cz u gy 2 (Iz aw):=fun u hu=>Yb hu a5 (cf.cell 2);have y4:∀u,Below Z va.drew u->Cz u gy 4 (.bool true):=fun u hu=>Yb hu a5 (cf.cell 4);clear a5;refine Zb Z 99999 [6,13] [0,1,2,3,4,5,7,8,9,10,11,12,14,15,16,6,13,17,18] ?_;refine Yt ?_;refine Ym fun K hK=>?_;refine(FT ((k:Int)+1) va.drew).mono ?_;rw[<-fx.h];rintro e u⟨rfl,rfl⟩;refine Yo hK (aa _ _) ?_;refine Yt ?_;clear y1 y2 y4;refine Ym fun K hK=>?_;refine(LY s' P m.S G' R' x (1 - k) eF ag aw va.drew ((eb.below dp).below (below_drewN (aa _ va) 1)) fz (cA c0.h) ed ⟨f2.1,cA f2.h.2⟩).mono ?_;rw[hB.h];rintro e vf⟨rfl,bf⟩;have ck:=ao bf;refine Yo hK (ck.mono (bu EZ)) ?_;clear bf;refine Yt ?_;refine aT ?_;go_wp2_with fail;go_meet;exact⟨rfl,ao (dW (below_drewN (aa _ va) 1) ck)⟩
     obtain⟨rfl,hC⟩:=hcut;go_wp2_with fail
     go_loopw [13,14] (fun s i wr=> ∃j:Nat,j<=nl/\s= Iz (ZO lv j)/\i= Iz j/\Hid (Bz va wr)) (fun _ i _=>nl - (intOf i).toNat)
     case atStart=>exact⟨0,aB _,rfl,rfl,hC⟩
     case round=>
      obtain⟨j,hj,rfl,rfl,a6⟩:=hrel;obtain⟨wp,rfl⟩:∃wo,wo=wr:=⟨_,rfl⟩;have a0:Cz wp gy 0 (.slice Al nl bp):=(cf.below a6).cell 0
      by_cases dS:j<nl
      ·have f3:j<lv.length:=by rw[<-hz.h];exact dS
       obtain⟨bl,ol,r,rfl,dT,hr,eK⟩:=acJ (y:=⟨⟨lv,⟨ag,aw,count⟩,has⟩,Al,bp⟩) fq f3;simp only at hr;obtain⟨d2,f4⟩:=fk.h j r hr;have f5:=ea.h j;have eL:=ea.h (j+1);have cm:=abz hr;obtain⟨sj,f6⟩:∃v,v=ZO lv j:=⟨_,rfl⟩;obtain⟨sk,eO⟩:∃v,v=ZO lv (j+1):=⟨_,rfl⟩;rw[<-f6] at f5 cm⊢;rw[<-eO] at eL cm d2;have cn:Bz w6 wp:=dW (dW eI dp) a6;obtain⟨rp,rq,rc⟩:=r;simp only at cm d2 f4;have l0:Cz wp bl (ol+j*3) (Iz rp):=Yb cn dT (eK 0 _ ae rfl);have l1:Cz wp bl (ol+j*3+1) (Iz rq):=Yb cn dT (eK 1 _ ae rfl);have f7:IntKind.i64.wrap (sj+rq)=sk:=cm▸aN _ ae;have ef:1<=sk:=ae;have i7:(j:Int)<nl:=ae;obtain⟨Z,eZ⟩:∃v,v=wp.heap.size:=⟨_,rfl⟩;have a5:gy<Z:=eZ▸aA fH a6.size;have f8:bl<Z:=eZ▸aA dT cn.size;have b0:∀u,Below Z wp.drew u->Cz u gy 0 (.slice (some ⟨bl,ol,none⟩) nl bp):=fun u hu=>Yb hu a5 a0;have b1:∀u,Below Z wp.drew u->Cz u bl (ol+j*3) (Iz rp):=fun u hu=>Yb hu f8 l0;obtain⟨hD,HS,hL,EZ,f9,hE,hQ⟩:=yY d2 (And.intro ef eL.2) cn eZ dS eO f7;clear d2 ef eL f5 cm f4 eK dT hr f3 dS cn eZ a5 f8 f6 eO
       go_upto_region 21 with(fail)
       clear a0 l0 l1 f7;refine Zb Z 99999 [3,11] [0,1,2,4,5,6,7,8,9,10,12,3,11,13] ?_;refine Yt ?_;refine Ym fun K hK=>?_;refine(FT ((k:Int)+1) wp.drew).mono ?_;rw[<-fx.h];rintro e u⟨rfl,rfl⟩;refine Yo hK (aa _ _) ?_;refine Yt ?_;clear b0 b1;refine Ym fun K hK=>?_;refine(LY s' P m.S G' R' x (1 - k) eF rp sk wp.drew (((eb.below dp).below a6).below (below_drewN (aa _ wp) 1)) fz (cA c0.h) ed ⟨HS.1,cA HS.h.2⟩).mono ?_;rw[hD.h];rintro e vf⟨rfl,bf⟩;have ck:=ao bf;refine Yo hK (ck.mono (bu EZ)) ?_;clear bf;refine Yt ?_;refine aT ?_;go_wp2_with fail;go_roundw
       case rel=>exact⟨j+1,f9,by rw[<-hE.h],by go_num,ao (a6.trans ((dW (below_drewN (aa _ wp) 1) ck).mono a6.size))⟩
       case measure=>have:=f9.h;simp[intOf];omega
      ·obtain rfl:j=nl:=ae
       have i7:¬(j:Int)<j:=ae;have gb:Hid (Bz w7 wp):=ao (dW (dW bb dp) a6);clear dS;go_wp2_with fail;go_roundw
       case rel=>exact⟨k+1,c0,by go_num,gb⟩
       case measure=>have:=c0.h;simp[intOf];omega
    ·obtain rfl:k=2:=ae
     go_wp2_with fail;go_roundw
     case rel=>exact⟨x+1,eC,by go_num,bb⟩
     case measure=>have:=eC.h;simp[intOf];omega
  ·obtain rfl:x=N:=ae
   have i3:¬(x:Int)<x:=ae;have eI:=ao (dW (dW ho a4) HB);clear eA;go_wp2_with fail;refine(Qw wo).mono ?_;rintro e w9⟨rfl,b9⟩;go_wp2_with fail;go_ret;exact⟨rfl,dW eI b9⟩
end Go.Proofs.YtbaaheidifacaaaGreat
