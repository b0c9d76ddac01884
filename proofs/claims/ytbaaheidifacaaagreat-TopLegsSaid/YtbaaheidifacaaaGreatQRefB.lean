import Derived.Test.YtbaaheidifacaaaGreatQGrow
import Derived.Test.YtbaaheidifacaaaGreatQLabR
set_option linter.defProp false
set_option linter.unusedVariables false
set_option linter.unusedSimpArgs false
set_option maxRecDepth 100000
set_option maxHeartbeats 12800000
namespace Go.Proofs.YtbaaheidifacaaaGreat
variable {N:Nat} {ma sa:Option Addr}
open Go.RowKit
def PD.cells (P:PD) (ma:Option Addr) (mc:Nat) (sa:Option Addr) (sc:Nat):Array Value:=
 #[.string (str P.code), .slice ma P.E.length mc,Iz P.tick,Iz P.low,Iz P.high,Iz P.wide,Iz P.rule,Iz P.top,Iz P.least,Iz P.part, .slice sa P.settle.length sc]
theorem PD.jt (P:PD) (ma:Option Addr) (mc:Nat) (sa:Option Addr) (sc:Nat):P.val ma mc sa sc= .agg (P.cells ma mc sa sc):=rfl
def fM (w:World) (g:Nat) (P:PD) (ma:Option Addr) (mc:Nat) (sa:Option Addr) (sc:Nat):Prop:=aE w g 25 (P.cells ma mc sa sc)
theorem fM.new (w:World) (P:PD) (ma:Option Addr) (mc:Nat) (sa:Option Addr) (sc:Nat):fM (w.alloc (.cells (P.cells ma mc sa sc) 25)) w.heap.size P ma mc sa sc:=heap_alloc_new _ _
theorem Pb (P:PD) (ma:Option Addr) (mc:Nat) (sa:Option Addr) (sc:Nat) (w:World) (h:iZ w P ma sa):
  Wz 94 #[P.val ma mc sa sc] w fun e w'=>e= .returned (.bool true)/\Bz w w':=by
 obtain⟨hm,hs,R⟩:=h;rw[PD.jt];obtain⟨w0,I⟩:=Zn (w.alloc (.cells (P.cells ma mc sa sc) 25));obtain⟨g,O⟩:=Zn w.heap.size;have D:fM w0 g P ma mc sa sc:=I▸O▸fM.new _ _ _ _ _ _;have B0:=Zw I;have ax:=hs.below B0;have c2:Cz w0 g 2 (Iz P.tick):=D.cell 2;have c3:Cz w0 g 3 (Iz P.low):=D.cell 3;have c4:Cz w0 g 4 (Iz P.high):=D.cell 4;have c5:Cz w0 g 5 (Iz P.wide):=D.cell 5;have wJ:Cz w0 g 10 (.slice sa P.settle.length sc):=D.cell 10;have t1:=R.BO;have t2:=R.EH;have d1:=R.Uh;have d2:=R.Nr;have d3:=R.RF;have d4:∀x∈P.settle,P.tick∣x:=fun x hx=>(R.KY x hx).1;have hl:P.settle.length<=1000:=by rw[R.vI];have:=R.n6;omega
 obtain⟨J,HL,HR,HB⟩:=mh (And.intro d1 (And.intro d2 (And.intro d3 d4))) hl R D;clear hm hs d1 d2 d3 d4 hl R D;unfold PD.cells;unfold PD.cells at I
 go_enter Tryz.func94,Tryz.ntmps94
 go_wp2_with fail;rw[<-I,<-O];clear I O;refine(zY _ _ g w0 c2 t1 J.1).mono ?_;rintro e u⟨rfl,rfl⟩;go_wp2_with fail;refine(zY _ _ g w0 c2 t1 J.2.1).mono ?_;rintro e u⟨rfl,rfl⟩;go_wp2_with fail;refine(zY _ _ g w0 c2 t1 J.2.2.1).mono ?_;rintro e u⟨rfl,rfl⟩;go_wp2_with fail;refine(Lg sa _ sc g _ _ w0 rfl HL c2 t1 J.2.2.2 ax).mono ?_;rintro e u⟨rfl,rfl⟩;go_wp2_with fail;go_ret;exact⟨rfl,B0⟩
theorem rC (P:PD) (ma:Option Addr) (mc:Nat) (sa:Option Addr) (sc:Nat) (w:World) (h:iZ w P ma sa):
  Wz 57 #[P.val ma mc sa sc] w fun e w'=>e= .returned (Iz 0)/\Bz w w':=by
 have hh:=h;obtain⟨hm,hs,R⟩:=h;rw[PD.jt];obtain⟨w0,ax⟩:=Zn (w.alloc (.cells (P.cells ma mc sa sc) 25));obtain⟨g,eg⟩:=Zn w.heap.size;have a0:fM w0 g P ma mc sa sc:=ax▸eg▸fM.new _ _ _ _ _ _;have B0:=Zw ax;have bb:=hm.below B0;have bc:=hh.below B0;have c0:Cz w0 g 0 (.string (str P.code)):=a0.cell 0;have c1:Cz w0 g 1 (.slice ma P.E.length mc):=a0.cell 1;obtain⟨a6,I,HH⟩:=fY a0 R bc;clear hm hs a0 hh bc R;unfold PD.cells;unfold PD.cells at ax
 go_enter Tryz.func57,Tryz.ntmps57
 go_wp2_with fail;rw[<-ax,<-eg];have EG:=ao eg;clear ax eg;refine(Jk P.code w0 I.code).mono ?_;rintro e O⟨rfl,b1⟩;have bf:g<w0.heap.size:=a6.lt;have k1:Cz O g 1 (.slice ma P.E.length mc):=Yb b1 bf c1;have bh:=bb.below b1;go_wp2_with fail;refine(Le ma _ mc P.E O rfl I.n2 I.n6 I.YJ I.inc bh).mono ?_;rintro e u⟨rfl,rfl⟩;have D:fM O g P ma mc sa sc:=a6.below b1;have cl:=ao D;have bp:=HH.h.below b1;have k0:Cz O g 0 (.string (str P.code)):=D.cell 0;have k2:Cz O g 2 (Iz P.tick):=D.cell 2;have k3:Cz O g 3 (Iz P.low):=D.cell 3;have k4:Cz O g 4 (Iz P.high):=D.cell 4;have k5:Cz O g 5 (Iz P.wide):=D.cell 5;have k6:Cz O g 6 (Iz P.rule):=D.cell 6;have k7:Cz O g 7 (Iz P.top):=D.cell 7;have k8:Cz O g 8 (Iz P.least):=D.cell 8;have k9:Cz O g 9 (Iz P.part):=D.cell 9;have bt:Cz O g 10 (.slice sa P.settle.length sc):=D.cell 10;have bE:=ao bp;have bH:g<O.heap.size:=D.lt;clear D bp bh bb;go_wp2_with fail;refine(Pb P ma mc sa sc O bE).mono ?_;rintro e w2⟨rfl,b2⟩;have mv:∀{i:Nat} {v:Value},Cz O g i v->Cz w2 g i v:=fun {i v} h=>Yb b2 bH h;have bQ:=bE.h.below b2;have b9:=ao bQ.s;obtain⟨N,eN⟩:=Zn P.E.length;have l1:=mv k1;have l3:=mv k3;have l4:=mv k4;have l5:=mv k5;have l6:=mv k6;have l7:=mv k7;have l8:=mv k8;have l9:=mv k9;have a7:=mv bt;rw[<-eN] at l1;rw[I.h.vI,<-eN] at a7;have B2:=dW (dW B0 b1) b2;obtain⟨s0,sl,ay⟩:∃s0 sl,P.settle=s0::sl:=by
  have h1:=I.h.vI;have h2:=I.h.n2
  cases hq:P.settle with
  |nil=>rw[hq] at h1;simp at h1;omega
  |cons a b=>exact⟨a,b,rfl⟩
 have bR:sl.length+1=N:=by rw[eN,<-I.h.vI,ay];rfl
 have a5:sl.length<=1000:=by have:=I.h.n6;rw[<-eN] at this;omega
 have J:∀x∈s0::sl,P.low<=x/\x<=P.high:=fun x hx=>(I.KY x (ay▸hx)).2;have bU:P.low<=Wx (s0::sl):=Nz (J s0 bT).1 fun y hy=>(J y (by simp[hy])).1;have bV:Wy (s0::sl)<=P.high:=NA (J s0 bT).2 fun y hy=>(J y (by simp[hy])).2;have hsc:Cells w2 sa (bZ (s0::sl)):=ay▸b9;obtain⟨mi,a8⟩:=Zn (Wx (s0::sl));obtain⟨mx,ba⟩:=Zn (Wy (s0::sl));rw[<-a8] at bU;rw[<-ba] at bV;obtain⟨cd,cf,b0,b7,EN,cm,b8⟩:=yY a8 ba bR hsc eN ay a5;have q1:=I.h.I7;have q2:=I.h.lh;have q3:=I.h.zl;have q4:=I.h.EK;have q5:=I.h.E5;have q6:=I.h.I8;have q7:=I.h.I9;have q8:=I.h.yB;have q9:=I.h.Wt;have cn:=I.h.BP;have ct:=I.h.KZ;have cv:=I.h.Ja;have cF:=I.h.Jb;clear a8 ba bR hsc eN ay J mv bQ k0 k1 k2 k3 k4 k5 k6 k7 k8 k9 bt a5 c0 c1 bf bH;have a2:g<w2.heap.size:=aA a6.lt (aF b1.size b2.size);have d1:∀u,aR w2.drew u->Cz u g 1 (.slice ma N mc):=fun u hu=>Yb hu a2 l1;have d3:∀u,aR w2.drew u->Cz u g 3 (Iz P.low):=fun u hu=>Yb hu a2 l3;have d4:∀u,aR w2.drew u->Cz u g 4 (Iz P.high):=fun u hu=>Yb hu a2 l4;have ck:∀u,aR w2.drew u->Cz u g 10 (.slice sa N sc):=fun u hu=>Yb hu a2 a7;go_wp2_with fail;clear l1 a7 l3 l4 l5;refine Zg [10,18] [0,1,2,3,4,5,6,7,8,9,11,12,10,13,14,15,16,17,19,20,18,21,22,23] ?_;refine Yt ?_;refine Ym fun K hK=>?_;refine(Up sa N sc s0 sl _ b0 b8 (b7.below (aS (aa _ _)))).mono ?_;rintro e u1⟨rfl,rfl⟩;rw[<-cd.h];have n1:decide (mi<P.low)=false:=by rw[decide_eq_false_iff_not];omega
 have n2:decide (P.high<mx)=false:=by rw[decide_eq_false_iff_not];omega
 refine Yo hK (aa _ _) ?_;refine Yt ?_;refine Ym fun K hK=>?_;refine(Uq sa N sc s0 sl _ b0 b8 (b7.below (aS (aa _ _)))).mono ?_;rintro e u2⟨rfl,rfl⟩;rw[<-cf.h];refine Yo hK (aa _ _) ?_;refine Yt ?_;refine aT ?_;clear d1 d3 d4 ck;go_wp2_with fail;go_ret;exact⟨rfl,aS B2⟩
theorem Ck (I:2<=N) (J:N<=6):∃K D:Int,(N:Int)*((N:Int) - 1)=K/\0<=K/\K<=30/\K.tdiv 2=D/\0<=D/\D<=15/\(N:Int)+D=(yE N:Int):=by
 obtain rfl|rfl|rfl|rfl|rfl:N=2\/N=3\/N=4\/N=5\/N=6:=ae
 all_goals exact⟨_,_,rfl,by decide,by decide,rfl,by decide,by decide,by decide⟩
theorem pP (P:PD) (ma:Option Addr) (mc:Nat) (sa:Option Addr) (sc:Nat) (w:World) (h:iZ w P ma sa):
  Wz 46 #[P.val ma mc sa sc] w fun e w'=>e= .returned (Iz (P.count:Int))/\Bz w w':=by
 rw[PD.jt];obtain⟨w0,I⟩:=Zn (w.alloc (.cells (P.cells ma mc sa sc) 25));obtain⟨g,eg⟩:=Zn w.heap.size;have O:fM w0 g P ma mc sa sc:=I▸eg▸fM.new _ _ _ _ _ _;have B0:=Zw I;have h0:=h.below B0;have R:=h.right;obtain⟨N,eN⟩:=Zn P.E.length;obtain⟨K,D,f1,f2,f3,f4,f5,f6,f7⟩:=Ck (N:=N) (eN▸R.n2) (eN▸R.n6);have a0:(2:Int)<=N:=cA R.n2;have a2:(N:Int)<=6:=cA R.n6;have J:(P.count:Int)=(N:Int)+D:=by rw[f7,eN];rfl
 obtain⟨ay,H0,EN,ax⟩:=mh O h0 eN J;clear O h0 eN h R f7 J;unfold PD.cells;unfold PD.cells at I
 go_enter Tryz.func46,Tryz.ntmps46
 go_wp2_with fail;rw[<-I];have EG:=ao eg;refine(rC P ma mc sa sc w0 H0).mono ?_;rintro e w1⟨rfl,b1⟩;rw[<-eg];clear I eg;have k1:Cz w1 g 1 (.slice ma N mc):=EN.h▸(ay.below b1).cell 1;go_wp2_with fail;go_ret;exact⟨jJ ax.symm,dW B0 b1⟩
theorem NB:∀n<7,∀k<7,oA n k<=15:=by decide
theorem Jl:∀n<7,2<=n->n+oA n n=yE n:=by decide
theorem zo (P:PD) (ma:Option Addr) (mc:Nat) (sa:Option Addr) (sc:Nat) (i j:Nat) (w:World) (h:iZ w P ma sa) (ay:i<j) (hj:j<P.n):
  Wz 139 #[P.val ma mc sa sc,Iz (i:Int),Iz (j:Int)] w fun e w'=>e= .returned (.tuple #[Iz (fv P.n i j:Int), .bool true])/\Bz w w':=by
 rw[PD.jt];obtain⟨w0,D⟩:=Zn (w.alloc (.cells (P.cells ma mc sa sc) 25));obtain⟨g,eg⟩:=Zn w.heap.size;have I:fM w0 g P ma mc sa sc:=D▸eg▸fM.new _ _ _ _ _ _;have B0:=Zw D;have h0:=h.below B0;have R:=h.right;obtain⟨N,J⟩:=Zn P.E.length;have h2:=R.n2;have h6:=R.n6;have a0:j<N:=J▸hj;have eS:fv P.n i j=N+oA N i+j - i - 1:=by rw[J];rfl
 rw[eS];rw[<-J] at h2 h6;obtain⟨O,H0,EN⟩:=fY I h0 J;clear I h0 J h R eS hj;have k1:=O.h.cell;have hg:g<w0.heap.size:=O.lt;unfold PD.cells;unfold PD.cells at D;have ax:=EN.h;clear EN;subst ax;have x1:¬(i:Int)<0:=ae;have x2:(i:Int)<j:=ae;have x3:(j:Int)<P.E.length:=ae;have x4:(P.E.length:Int)<=6:=ae
 go_enter Tryz.func139,Tryz.ntmps139
 go_wp2_with fail;rw[<-D];have EG:=ao eg;refine(rC P ma mc sa sc w0 H0).mono ?_;rintro e w1⟨rfl,b1⟩;rw[<-eg];clear D eg;go_wp2_with fail
 go_loop [9,33] (fun a k=> ∃m:Nat,m<=i/\k= Iz (m:Int)/\a= Iz ((P.E.length+oA P.E.length m:Nat):Int)) (fun _ k=>i - (intOf k).toNat)
 case atStart=>exact⟨0,aB _,rfl,rfl⟩
 case round=>
  obtain⟨m,hm,rfl,rfl⟩:=hrel;have hb:=NB P.E.length ae m ae;obtain⟨a,ea⟩:=Zn (((P.E.length+oA P.E.length m:Nat):Int):Int);have a1:0<=a:=ae;have a2:a<=21:=ae;rw[<-ea];have EA:=ao ea;clear ea hb
  by_cases a5:m<i
  ·have y1:(m:Int)<i:=ae
   go_wp2_with fail
   go_round
   case rel=>exact⟨m+1,ae,by go_num,fE (by have:=EA.h;rw[oA];omega)⟩
   case measure=>simp[intOf];omega
  ·obtain rfl:m=i:=ae
   go_wp2_with fail
   go_ret2
   refine⟨?_,dW B0 b1⟩;have:=EA.h;rw[(ae:((P.E.length+oA P.E.length m+j - m - 1:Nat):Int)=a+j - m - 1)];rfl
theorem rD (P:PD) (ma:Option Addr) (mc:Nat) (sa:Option Addr) (sc:Nat) (x:Nat) (w:World) (h:iZ w P ma sa) (hx:x<P.count):
  Wz 18 #[P.val ma mc sa sc,Iz (x:Int)] w fun e w'=>e= .returned (.tuple #[Iz ((cy P.n x).1:Int),Iz ((cy P.n x).2:Int), .bool (decide (P.n<=x))])/\Bz w w':=by
 rw[PD.jt];obtain⟨w0,ax⟩:=Zn (w.alloc (.cells (P.cells ma mc sa sc) 25));obtain⟨g,eg⟩:=Zn w.heap.size;have a5:fM w0 g P ma mc sa sc:=ax▸eg▸fM.new _ _ _ _ _ _;have B0:=Zw ax;have h0:=h.below B0;have R:=h.right;obtain⟨N,eN⟩:=Zn P.E.length;have h2:=R.n2;have h6:=R.n6;have bb:x<yE N:=eN▸hx;have bc:=Gi N ae;have bf:=Jl N ae ae;have eL:cy P.n x=cy N x:=by rw[eN];rfl
 have eD:decide (P.n<=x)=decide (N<=x):=by rw[eN];rfl
 have eC:P.count=yE N:=by rw[eN];rfl
 rw[eL,eD];rw[<-eN] at h2 h6;obtain⟨I,eI⟩:=Zn (((cy N x).1:Int):Int);obtain⟨J,eJ⟩:=Zn (((cy N x).2:Int):Int);obtain⟨Z,eZ⟩:=Zn (decide (N<=x));rw[<-eI,<-eJ,<-eZ];obtain⟨EI,EJ,EZ⟩:=fY eI eJ eZ;clear eI eJ eZ;obtain⟨a6,H0,EN,EC⟩:=mh a5 h0 eN eC;clear a5 h0 eN h R hx eL eD eC;have hg:g<w0.heap.size:=a6.lt;unfold PD.cells;unfold PD.cells at ax;have bh:=EN.h;clear EN;subst bh;obtain⟨C,eC⟩:=Zn (yE P.E.length);rw[<-eC] at bb bf bc;have x1:¬(x:Int)<0:=ae;have x2:(x:Int)<C:=ae;have x4:(P.E.length:Int)<=6:=ae;have x5:(2:Int)<=P.E.length:=ae;have x6:(C:Int)<=21:=ae;have bp:=ao eC;clear eC
 go_enter Tryz.func18,Tryz.ntmps18
 go_wp2_with fail;rw[<-ax];have EG:=ao eg;refine(pP P ma mc sa sc w0 H0).mono ?_;rintro e w1⟨rfl,b1⟩;rw[<-eg,EC.h,<-bp.h];clear ax eg;have k1:Cz w1 g 1 (.slice ma P.E.length mc):=(a6.below b1).cell 1
 by_cases D:x<P.E.length
 ·have y1:(x:Int)<P.E.length:=ae
  have e1:I=(x:Int):=by rw[EI.h,uj D]
  have e2:J=(x:Int):=by rw[EJ.h,uj D]
  have e3:Z=false:=by rw[EZ.h,decide_eq_false_iff_not];omega
  clear EI EJ EZ;subst e1 e2 e3;clear D;go_wp2_with fail;refine bodyPost_ret (v:= .tuple #[Iz (x:Int),Iz (x:Int), .bool false]) (by simp[results,Tryz.results18,go_sem]) rfl ?_;exact⟨rfl,dW B0 b1⟩
 ·have y1:¬(x:Int)<P.E.length:=ae
  have e3:Z=true:=by rw[EZ.h,decide_eq_true_iff];omega
  clear EZ;subst e3;have a7:yF P.E.length x P.E.length 0=cy P.E.length x:=by unfold cy;rw[if_neg D]
  obtain⟨a8,ba⟩:=dF a7 D;clear a7 D;go_wp2_with fail
  go_loop [8,33] (fun a k=> ∃m:Nat,m<=P.E.length/\k= Iz (m:Int)/\a= Iz ((P.E.length+oA P.E.length m:Nat):Int)/\Hid (yF P.E.length x (P.E.length - m) m=cy P.E.length x)/\P.E.length+oA P.E.length m<=x) (fun _ k=>P.E.length - (intOf k).toNat)
  case atStart=>exact⟨0,aB _,rfl,rfl,a8,by have:=ba.h;simp[oA];omega⟩
  case round=>
   obtain⟨m,hm,rfl,rfl,ay,hle⟩:=hrel;have hb:=NB P.E.length ae m ae
   by_cases D:m<P.E.length
   ·have O:oA P.E.length (m+1)=oA P.E.length m+(P.E.length - 1 - m):=rfl
    have a0:yF P.E.length x (P.E.length - m) m=if x<P.E.length+oA P.E.length (m+1) then (m,m+1+x - (P.E.length+oA P.E.length m)) else yF P.E.length x (P.E.length - m - 1) (m+1):=by
     rw[(ae:P.E.length - m=(P.E.length - m - 1)+1)];rfl
    obtain⟨a,ea⟩:=Zn (((P.E.length+oA P.E.length m:Nat):Int):Int);have a1:0<=a:=ae;have a2:a<=21:=ae;have a3:a<=x:=ae;rw[<-ea];have hl:=ay.h;rw[a0] at hl;have y2:(m:Int)<P.E.length:=ae
    by_cases hc:x<P.E.length+oA P.E.length (m+1)
    ·rw[if_pos hc] at hl
     have z1:(x:Int)<a+((P.E.length:Int) - 1 - m):=ae;have e1:I=(m:Int):=by rw[EI.h,<-hl]
     have e2:J=(m:Int)+1+x - a:=by rw[EJ.h,<-hl];simp only;omega
     clear EI EJ ay hl;subst e1 e2;have EA:=ao ea;clear ea hb a0 O hc hle a8 ba;go_wp2_with fail;refine bodyPost_ret (v:= .tuple #[Iz (m:Int),Iz ((m:Int)+1+x - a), .bool true]) (by simp[results,Tryz.results18,go_sem]) rfl ?_;exact⟨rfl,dW B0 b1⟩
    ·rw[if_neg hc] at hl
     have z1:¬(x:Int)<a+((P.E.length:Int) - 1 - m):=ae;obtain⟨HL,HC,EA,HO⟩:=mh hl hc ea O;clear ea hb a0 hl hc hle O ay;go_wp2_with fail
     go_round
     case rel=>exact⟨m+1,ae,by go_num,fE (jE EA.h HO.h),ao (by rw[(ae:P.E.length - (m+1)=P.E.length - m - 1)];exact HL),cA HC.h⟩
     case measure=>simp[intOf];omega
   ·obtain rfl:m=P.E.length:=ae
    omega
theorem Jm (P:PD) {x:Nat} {p:Int} (hx:x<P.count):P.oY (x:Int) p=P.fy x p:=by
 unfold PD.oY;rw[if_neg ae];rfl
theorem pQ (P:PD) (ma:Option Addr) (mc:Nat) (sa:Option Addr) (sc:Nat) (x p:Int) (w:World) (h:iZ w P ma sa):
  Wz 19 #[P.val ma mc sa sc,Iz x,Iz p] w fun e w'=>e= .returned (Iz (P.oY x p))/\Bz w w':=by
 rw[PD.jt];obtain⟨w0,I⟩:=Zn (w.alloc (.cells (P.cells ma mc sa sc) 25));obtain⟨g,eg⟩:=Zn w.heap.size;have ax:fM w0 g P ma mc sa sc:=I▸eg▸fM.new _ _ _ _ _ _;have B0:=Zw I;have h0:=h.below B0;have R:=h.right;have ay:=R.cnt;obtain⟨W,eW⟩:=Zn (P.oY x p);rw[<-eW];have r1:=R.n2;have r2:=R.n6;have r3:=R.BO;have r4:=R.EH;have r5:=R.I7;have r6:=R.lh;have r7:=R.zl;have r8:=R.EK;have r9:=R.E5;obtain⟨a2,H0,EW⟩:=fY ax h0 eW;clear ax h0 h R eW;unfold PD.cells;unfold PD.cells at I
 go_enter Tryz.func19,Tryz.ntmps19
 go_wp2_with fail;rw[<-I];have EG:=ao eg;refine(pP P ma mc sa sc w0 H0.h).mono ?_;rintro e w1⟨rfl,b1⟩;rw[<-eg];clear I eg;have D:=a2.h.below b1;have k1:Cz w1 g 1 (.slice ma P.E.length mc):=D.cell 1;have k2:Cz w1 g 2 (Iz P.tick):=D.cell 2;have k3:Cz w1 g 3 (Iz P.low):=D.cell 3;have k4:Cz w1 g 4 (Iz P.high):=D.cell 4;have k5:Cz w1 g 5 (Iz P.wide):=D.cell 5;have O:=dW B0 b1;clear D;obtain⟨C,eC⟩:=Zn ((P.count:Int):Int);rw[<-eC];have c1:2<=C:=ae;have c2:C<=21:=ae;have cn:(P.E.length:Int)<=C:=by have:=ay.2.1;unfold PD.n at this;omega
 have EC:=ao eC;clear eC ay;have a6:(C==0)=false:=iW
 by_cases hx:x<0\/C<=x
 ·have e1:W=20:=by rw[EW.h];unfold PD.oY;rw[if_pos (EC.h▸hx)]
  clear EW;subst e1;rcases hx with hx|hx
  ·go_wp2_with fail
   go_ret;exact⟨rfl,O⟩
  ·have a5:¬x<0:=ae
   go_wp2_with fail;go_ret;exact⟨rfl,O⟩
 ·have a5:¬x<0:=ae
  have a7:¬C<=x:=ae;have a8:x<C:=ae;have e0:W=P.fy x.toNat p:=by rw[EW.h];unfold PD.oY;rw[if_neg (EC.h▸hx)]
  clear hx EW;have ht:P.tick≠0:=ae
  by_cases hd:P.tick∣p
  ·have hm:p.tmod P.tick=0:=jk hd
   have a0:¬(p % P.tick≠0):=by simp;exact TL hd
   have e1:W=if p<P.lo x.toNat\/P.hi x.toNat<p then 23 else 0:=by rw[e0];unfold PD.fy;rw[if_neg a0]
   clear e0 a0 hd
   by_cases hn:x<(P.E.length:Int)
   ·have e2:P.lo x.toNat=P.low/\P.hi x.toNat=P.high:=by unfold PD.lo PD.hi PD.n;rw[if_pos ae,if_pos ae];exact⟨rfl,rfl⟩
    rw[e2.1,e2.2] at e1;clear e2
    by_cases hq:p<P.low
    ·rw[if_pos (.inl hq)] at e1
     subst e1;go_wp2_with fail
     go_quiet (fail)
     go_wp2_with fail;go_ret;exact⟨rfl,below_drewN O _⟩
    ·by_cases J:P.high<p
     ·rw[if_pos (.inr J)] at e1
      subst e1;go_wp2_with fail
      go_quiet (fail)
      go_wp2_with fail;go_ret;exact⟨rfl,below_drewN O _⟩
     ·rw[if_neg (by rintro(h|h);exact hq h;exact J h)] at e1
      subst e1;go_wp2_with fail
      go_quiet (fail)
      go_wp2_with fail;go_ret;exact⟨rfl,below_drewN O _⟩
   ·have e2:P.lo x.toNat= -P.wide/\P.hi x.toNat=P.wide:=by unfold PD.lo PD.hi PD.n;rw[if_neg ae,if_neg ae];exact⟨rfl,rfl⟩
    rw[e2.1,e2.2] at e1;clear e2
    by_cases hq:p< -P.wide
    ·rw[if_pos (.inl hq)] at e1
     subst e1;go_wp2_with fail
     go_quiet (fail)
     go_wp2_with fail
     go_quiet (fail)
     go_wp2_with fail;go_ret;exact⟨rfl,below_drewN O _⟩
    ·by_cases J:P.wide<p
     ·rw[if_pos (.inr J)] at e1
      subst e1;go_wp2_with fail
      go_quiet (fail)
      go_wp2_with fail
      go_quiet (fail)
      go_wp2_with fail;go_ret;exact⟨rfl,below_drewN O _⟩
     ·rw[if_neg (by rintro(h|h);exact hq h;exact J h)] at e1
      subst e1;go_wp2_with fail
      go_quiet (fail)
      go_wp2_with fail
      go_quiet (fail)
      go_wp2_with fail;go_ret;exact⟨rfl,below_drewN O _⟩
  ·have hm:(p.tmod P.tick==0)=false:=by
    simp;intro h;exact hd (Int.dvd_of_tmod_eq_zero h)
   have e1:W=22:=by rw[e0];unfold PD.fy;rw[if_pos];intro h;exact hd (TK h)
   clear e0;subst e1;go_wp2_with fail;go_ret;exact⟨rfl,O⟩
theorem Gw (l:List UInt8) (w:World) (h:l=[206,169]\/l=[67,76]):
  Wz 112 #[.string (str l)] w fun e w'=>e= .returned (.bool true)/\Bz w w':=by
 obtain⟨hg,a6,bb⟩:=Cj h;have hl:l.length<=9223372036854775807:=by rcases h with rfl|rfl<;>decide
 have a2:1<=wO l:=by rcases h with rfl|rfl<;>decide
 have J:wO l=(jc l).length:=rfl;obtain⟨C,eC⟩:=Zn (wO l);rw[<-eC] at a6 a2 J;obtain⟨HG,HH,a7⟩:=fY hg h J;clear eC hg h J
 go_enter Tryz.func112,Tryz.ntmps112
 go_wp2
 go_loopw [3] (fun n wr=> ∃(pos k:Nat),wr=w.iter (str l) pos/\AtR l k pos/\n= Iz k) (fun _ wr=>l.length - wr.iterPos w.heap.size)
 case atStart=>exact⟨0,0,rfl,AtR.zero l,rfl⟩
 case round=>
  obtain⟨pos,k,rfl,A,rfl⟩:=hrel;have hp:=A.le;have hk:=A.Yu
  by_cases D:pos<l.length
  ·obtain⟨A2,O,a8,ba⟩:=A.step D
   have ax:=xR (P:=Tryz.prog) w l pos D;obtain⟨wd,ay⟩:=Zn ((jb (l.drop pos)).2);obtain⟨r,er⟩:=Zn ((jb (l.drop pos)).1);rw[<-ay] at A2 a8 ba;rw[<-er] at O;rw[<-er,<-ay] at ax;have a0:=HG.h _ (aH O);clear A O;have I:((65:Int)<=r/\(r:Int)<=90)\/((90:Int)<r/\(913:Int)<=r/\(r:Int)<=937/\((r:Int) !=930)=true):=by
    simp[Ld] at a0;rcases a0 with h|h
    ·exact .inl ⟨ae,ae⟩
    ·refine .inr ⟨ae,ae,ae,?_⟩
     simp;omega
   clear a0 er ay;obtain⟨R,eR⟩:=Zn ((r:Int):Int);rw[<-eR] at ax I;clear eR;rcases I with⟨g1,g2⟩|⟨g1,g2,g3,g4⟩
   ·go_wp2
    go_roundw
    case rel=>exact⟨pos+wd,k+1,rfl,A2,by go_num⟩
    case measure=>simp;omega
   ·go_wp2
    go_roundw
    case rel=>exact⟨pos+wd,k+1,rfl,A2,by go_num⟩
    case measure=>simp;omega
  ·have ax:=pg (P:=Tryz.prog) w l pos D
   have a5:=(A.end_ D).1;obtain rfl:k=C:=a5.trans a7.symm;clear A a5;have i1:(1:Int)<=k:=ae;have i2:(k:Int)<=4:=ae;go_wp2_with fail;go_ret;exact⟨rfl,au (aa _ _) _⟩
structure Ur (w:World) (g:Nat) (ma:Option Addr) (mc:Nat) (sa:Option Addr) (sc N:Nat) (l y:List Int) (tk lo hi wi ru tp le pa:Int):Prop where
 lt:g<w.heap.size
 c1:w.cell? ⟨g,1,none⟩=some (.slice ma N mc)
 c2:w.cell? ⟨g,2,none⟩=some (Iz tk)
 c3:w.cell? ⟨g,3,none⟩=some (Iz lo)
 c4:w.cell? ⟨g,4,none⟩=some (Iz hi)
 c5:w.cell? ⟨g,5,none⟩=some (Iz wi)
 c6:w.cell? ⟨g,6,none⟩=some (Iz ru)
 c7:w.cell? ⟨g,7,none⟩=some (Iz tp)
 c8:w.cell? ⟨g,8,none⟩=some (Iz le)
 c9:w.cell? ⟨g,9,none⟩=some (Iz pa)
 wJ:w.cell? ⟨g,10,none⟩=some (.slice sa N sc)
 m:Cells w ma (bZ l)
 s:Cells w sa (bZ y)
theorem Ur.below {w w':World} {g:Nat} {mc:Nat} {sc:Nat} {l y:List Int} {I lo hi wi ru tp le pa:Int} (h:Ur w g ma mc sa sc N l y I lo hi wi ru tp le pa) (D:Bz w w'):Ur w' g ma mc sa sc N l y I lo hi wi ru tp le pa:=by
 have mv:∀(i:Nat) (v:Value),Cz w g i v->Cz w' g i v:=fun i v hv=>Yb D h.lt hv;exact⟨aA h.lt D.size,mv _ _ h.c1,mv _ _ h.c2,mv _ _ h.c3,mv _ _ h.c4,mv _ _ h.c5,mv _ _ h.c6,mv _ _ h.c7,mv _ _ h.c8,mv _ _ h.c9,mv _ _ h.wJ,h.m.below D,h.s.below D⟩
theorem Cl (P:PD) (ma:Option Addr) (mc:Nat) (sa:Option Addr) (sc:Nat) (w:World) (h:iZ w P ma sa):
  Wz 73 #[P.val ma mc sa sc] w fun e w'=>e= .returned (Iz 0)/\Bz w w':=by
 have hh:=h;obtain⟨hm,hs,R⟩:=h;rw[PD.jt];obtain⟨w0,ay⟩:=Zn (w.alloc (.cells (P.cells ma mc sa sc) 25));obtain⟨g,eg⟩:=Zn w.heap.size;have bb:fM w0 g P ma mc sa sc:=ay▸eg▸fM.new _ _ _ _ _ _;have B0:=Zw ay;have bR:=hm.below B0;have bU:=hs.below B0;have c0:=bb.cell;obtain⟨bV,D,b0,b2⟩:=mh bb R bR bU;clear hm hs bb hh R bR bU;unfold PD.cells;unfold PD.cells at ay
 go_enter Tryz.func73,Tryz.ntmps73
 go_wp2_with fail;rw[<-ay,<-eg];clear ay eg;refine(Gw P.code w0 D.code).mono ?_;rintro e O⟨rfl,b1⟩;have I:fM O g P ma mc sa sc:=bV.below b1;have bc:=b0.h.below b1;have bf:=b2.h.below b1;have B1:=dW B0 b1;clear c0;have k1:Cz O g 1 (.slice ma P.E.length mc):=I.cell 1;have k2:Cz O g 2 (Iz P.tick):=I.cell 2;have k3:Cz O g 3 (Iz P.low):=I.cell 3;have k4:Cz O g 4 (Iz P.high):=I.cell 4;have k5:Cz O g 5 (Iz P.wide):=I.cell 5;have k6:Cz O g 6 (Iz P.rule):=I.cell 6;have k7:Cz O g 7 (Iz P.top):=I.cell 7;have k8:Cz O g 8 (Iz P.least):=I.cell 8;have k9:Cz O g 9 (Iz P.part):=I.cell 9;have J:Cz O g 10 (.slice sa P.settle.length sc):=I.cell 10;obtain⟨l,el⟩:=Zn P.E;obtain⟨y,ey⟩:=Zn P.settle;obtain⟨N,eN⟩:=Zn l.length;have bh:y.length=N:=ey▸eN▸el▸D.vI;have b7:∀m∈l,0<=m/\m<=1199:=el▸D.YJ;have b8:l.Pairwise (· < ·):=el▸D.inc;have a0:∀x∈y,P.tick∣x/\P.low<=x/\x<=P.high:=ey▸D.KY;have i1:(2:Int)<=N:=by have:=D.h.n2;rw[eN,el];omega
 have i2:(N:Int)<=6:=by have:=D.h.n6;rw[eN,el];omega
 rw[<-el,<-eN] at k1;rw[<-ey,bh] at J;rw[<-el] at bc;rw[<-ey] at bf;obtain⟨tk,ax⟩:=Zn P.tick;obtain⟨lo,a5⟩:=Zn P.low;obtain⟨hi,a6⟩:=Zn P.high;obtain⟨wi,a7⟩:=Zn P.wide;obtain⟨ru,bp⟩:=Zn P.rule;obtain⟨tp,bt⟩:=Zn P.top;obtain⟨le,bE⟩:=Zn P.least;obtain⟨pa,bH⟩:=Zn P.part;have t1:1<=tk/\tk<=1000:=ax▸⟨D.BO,D.EH⟩;have d1:lo.tmod tk=0:=a5▸ax▸jk D.Uh;have d2:hi.tmod tk=0:=a6▸ax▸jk D.Nr;have d3:wi.tmod tk=0:=a7▸ax▸jk D.RF;have q1: -1000000<=lo/\lo<hi/\hi<=1000000/\0<=wi/\wi<=hi - lo:=a5▸a6▸a7▸⟨D.I7,D.lh,D.zl,D.EK,D.E5⟩;have q2:(1<=ru/\ru<=3)/\(0<=tp/\tp<=1000000)/\(1<=le/\le<=1000)/\0<=pa/\pa<=100:=bp▸bt▸bE▸bH▸⟨⟨D.I8,D.I9⟩,⟨D.yB,D.Wt⟩,⟨D.BP,D.KZ⟩,D.Ja,D.Jb⟩;rw[<-ax] at k2 a0;rw[<-a5] at k3 a0;rw[<-a6] at k4 a0;rw[<-a7] at k5;rw[<-bp] at k6;rw[<-bt] at k7;rw[<-bE] at k8;rw[<-bH] at k9;obtain⟨t1,t2⟩:=t1;obtain⟨ct,cv,cF,cH,cQ⟩:=q1;obtain⟨⟨cS,cT⟩,⟨cX,dc⟩,⟨dp,dS⟩,dT,d4⟩:=q2;have t0:tk≠0:=ae;have hX:Ur O g ma mc sa sc N l y tk lo hi wi ru tp le pa:=⟨I.lt,k1,k2,k3,k4,k5,k6,k7,k8,k9,J,bc,bf⟩;obtain⟨HX,b9,ck,cl,cd,EN,HD⟩:=yY hX bh b7 b8 a0 eN (And.intro d1 (And.intro d2 d3));clear el ey eN bh b7 b8 a0 ax a5 a6 a7 bp bt bE bH bc bf I bV D b0 b2 B0 b1 d1 d2 d3 hX;have cm:=ao B1;clear B1;go_wp2_with fail;clear k1 k2 k3 k4 k5 k6 k7 k8 k9 J
 go_loopw [3] (fun i wr=> ∃k:Nat,k<=N/\i= Iz k/\Hid (Bz O wr)) (fun i _=>N - (intOf i).toNat)
 case atStart=>exact⟨0,aB _,rfl,ao (aa _ _)⟩
 case round=>
  obtain⟨k,hk,rfl,HB⟩:=hrel;obtain⟨wo,rfl⟩:=Zn wr;have hB:=HB.h;obtain⟨_,k1,k2,k3,k4,k5,k6,k7,k8,k9,J,hm,hs⟩:=HX.h.below hB;clear hB hs
  by_cases a2:k<N
  ·obtain⟨b,o,x,rfl,hb,hc,hx⟩:=hm.jK (k:=k) (EN.h▸a2)
   have d5:=ck.h x (aH hx.h);have HM:=ao hm
   cases k with
   |zero=>
    have d6:Cz wo b o (Iz x):=hc;have n1:decide (x<0)=false:=decide_eq_false ae;have n2:decide (1199<x)=false:=decide_eq_false ae;clear hc hm;go_wp2_with fail
    go_quiet (fail)
    go_wp2_with fail;go_roundw
    case rel=>exact⟨1,a2,by go_num,ao (below_drewN HB _)⟩
    case measure=>simp[intOf];omega
   |succ j=>
    have bQ:j<l.length:=by rw[<-EN.h];omega
    have ba:j+1<l.length:=by rw[<-EN.h];omega
    obtain⟨y',hy⟩:∃y',l[j]?=some y':=⟨_,aj bQ⟩;have d7:=hm.put hy;have d8:y'<x:=by
     have:=nz.1 cl j (j+1) bQ ba ae;rw[(az.1 hy).2,(az.1 hx.h).2] at this;exact this
    have hw:IntKind.i64.wrap (((j+1:Nat):Int) - 1)=(j:Int):=by rw[(ae:((j+1:Nat):Int) - 1=(j:Int))];exact aN _ ae
    have cn:(0:Int)<((j+1:Nat):Int):=ae;have n1:decide (x<0)=false:=decide_eq_false ae;have n2:decide (1199<x)=false:=decide_eq_false ae;have n3:decide (x<=y')=false:=decide_eq_false ae;have HY:=ao hy;clear hy bQ ba hm;go_wp2_with fail
    go_quiet (fail)
    go_wp2_with fail;go_roundw
    case rel=>exact⟨j+1+1,a2,by go_num,ao (below_drewN HB _)⟩
    case measure=>simp[intOf];omega
  ·obtain rfl:k=N:=ae
   have d9:=ao a2;clear a2 hm;obtain⟨d1,d2,d3⟩:=HD.h;go_wp2_with fail;clear k1 k2 k3 k4 k5 k6 k7 k8 k9 J
   go_loopw [4] (fun i wr=> ∃j:Nat,j<=k/\i= Iz j/\Hid (Bz O wr)) (fun i _=>k - (intOf i).toNat)
   case atStart=>exact⟨0,aB _,rfl,HB⟩
   case round=>
    clear HB;obtain⟨j,hj,rfl,HB⟩:=hrel;obtain⟨wp,rfl⟩:=Zn wr;have hB:=HB.h;obtain⟨_,k1,k2,k3,k4,k5,k6,k7,k8,k9,J,hm,hs⟩:=HX.h.below hB;clear hB hm
    by_cases a8:j<k
    ·obtain⟨b,o,x,rfl,hb,hc,hx⟩:=hs.jK (k:=j) (b9.h▸a8)
     have ea:x.tmod tk=0:=jk (cd x (aH hx.h)).1;clear hs;go_wp2_with fail
     go_quiet (fail)
     go_wp2_with fail;go_roundw
     case rel=>exact⟨j+1,a8,by go_num,ao (below_drewN HB _)⟩
     case measure=>simp[intOf];omega
    ·obtain rfl:j=k:=ae
     have eb:=ao a8;clear a8 hs;go_wp2_with fail;clear k1 k2 k3 k4 k5 k6 k7 k8 k9 J
     go_loopw [5] (fun i wr=> ∃m:Nat,m<=j/\i= Iz m/\Hid (Bz O wr)) (fun i _=>j - (intOf i).toNat)
     case atStart=>exact⟨0,aB _,rfl,HB⟩
     case round=>
      clear HB;obtain⟨m,ed,rfl,HB⟩:=hrel;obtain⟨wq,rfl⟩:=Zn wr;have hB:=HB.h;obtain⟨_,k1,k2,k3,k4,k5,k6,k7,k8,k9,J,hm,hs⟩:=HX.h.below hB;clear hB hm
      by_cases cf:m<j
      ·obtain⟨b,o,x,rfl,hb,hc,hx⟩:=hs.jK (k:=m) (b9.h▸cf)
       obtain⟨_,ef,ei⟩:=cd.h x (aH hx.h);have n1:decide (x<lo)=false:=decide_eq_false ae;have n2:decide (hi<x)=false:=decide_eq_false ae;clear hs;go_wp2_with fail
       go_quiet (fail)
       go_wp2_with fail;go_roundw
       case rel=>exact⟨m+1,cf,by go_num,ao (below_drewN HB _)⟩
       case measure=>simp[intOf];omega
      ·obtain rfl:m=j:=ae
       clear hs;go_wp2_with fail;go_ret;exact⟨rfl,dW cm HB⟩
theorem Lj (P:PD) (ma:Option Addr) (mc:Nat) (sa:Option Addr) (sc:Nat) (w:World) (h:iZ w P ma sa):
  Wz 44 #[P.val ma mc sa sc] w fun e w'=>e= .returned (Iz (P.count:Int))/\Bz w w':=by
 rw[PD.jt];obtain⟨w0,I⟩:=Zn (w.alloc (.cells (P.cells ma mc sa sc) 25));obtain⟨g,eg⟩:=Zn w.heap.size;have O:fM w0 g P ma mc sa sc:=I▸eg▸fM.new _ _ _ _ _ _;have B0:=Zw I;have h0:=h.below B0;have R:=h.right;obtain⟨N,eN⟩:=Zn P.E.length;obtain⟨K,D,f1,f2,f3,f4,f5,f6,f7⟩:=Ck (N:=N) (eN▸R.n2) (eN▸R.n6);have a0:(2:Int)<=N:=cA R.n2;have a2:(N:Int)<=6:=cA R.n6;have J:(P.count:Int)=(N:Int)+D:=by rw[f7,eN];rfl
 obtain⟨ay,H0,EN,ax⟩:=mh O h0 eN J;clear O h0 eN h R f7 J;unfold PD.cells;unfold PD.cells at I
 go_enter Tryz.func44,Tryz.ntmps44
 go_wp2_with fail;rw[<-I];have EG:=ao eg;refine(Cl P ma mc sa sc w0 H0).mono ?_;rintro e w1⟨rfl,b1⟩;rw[<-eg];clear I eg;have k1:Cz w1 g 1 (.slice ma N mc):=EN.h▸(ay.below b1).cell 1;go_wp2_with fail;go_ret;exact⟨jJ ax.symm,dW B0 b1⟩
theorem Pc (P:PD) (ma:Option Addr) (mc:Nat) (sa:Option Addr) (sc:Nat) (x:Nat) (w:World) (h:iZ w P ma sa) (hx:x<P.count):
  Wz 45 #[P.val ma mc sa sc,Iz (x:Int)] w fun e w'=>e= .returned (.tuple #[Iz ((cy P.n x).1:Int),Iz ((cy P.n x).2:Int), .bool (decide (P.n<=x))])/\Bz w w':=by
 rw[PD.jt];obtain⟨w0,ay⟩:=Zn (w.alloc (.cells (P.cells ma mc sa sc) 25));obtain⟨g,eg⟩:=Zn w.heap.size;have ba:fM w0 g P ma mc sa sc:=ay▸eg▸fM.new _ _ _ _ _ _;have B0:=Zw ay;have h0:=h.below B0;have R:=h.right;obtain⟨N,eN⟩:=Zn P.E.length;have h2:2<=N:=eN▸R.n2;have h6:N<=6:=eN▸R.n6;have bc:x<yE N:=eN▸hx;have eL:cy P.n x=cy N x:=by rw[eN];rfl
 have eD:decide (P.n<=x)=decide (N<=x):=by rw[eN];rfl
 rw[eL,eD];obtain⟨I,eI⟩:=Zn (((cy N x).1:Int):Int);obtain⟨J,eJ⟩:=Zn (((cy N x).2:Int):Int);obtain⟨Z,eZ⟩:=Zn (decide (N<=x));rw[<-eI,<-eJ,<-eZ];obtain⟨EI,EJ,EZ⟩:=fY eI eJ eZ;clear eI eJ eZ;have bf:=Gi N ae;have bh:=Jl N ae ae;obtain⟨C,eC⟩:=Zn (yE N);rw[<-eC] at bc bf bh;obtain⟨bp,H0,EN⟩:=fY ba h0 eN;clear ba h0 eN h R hx eL eD eC;have k1:Cz w0 g 1 (.slice ma N mc):=EN.h▸bp.cell 1;have x1:¬(x:Int)<0:=ae;have x4:(N:Int)<=6:=ae;have x5:(2:Int)<=N:=ae;have x6:(x:Int)<21:=ae;have bt:=EN.h;clear EN;subst bt;unfold PD.cells;unfold PD.cells at ay
 go_enter Tryz.func45,Tryz.ntmps45
 go_wp2_with fail;rw[<-ay];have EG:=ao eg;refine(Cl P ma mc sa sc w0 H0).mono ?_;rintro e w1⟨rfl,b1⟩;clear ay eg k1
 by_cases D:x<P.E.length
 ·have y1:(x:Int)<P.E.length:=ae
  have e1:I=(x:Int):=by rw[EI.h,uj D]
  have e2:J=(x:Int):=by rw[EJ.h,uj D]
  have e3:Z=false:=by rw[EZ.h,decide_eq_false_iff_not];omega
  clear EI EJ EZ;subst e1 e2 e3;clear D;go_wp2_with fail;refine bodyPost_ret (v:= .tuple #[Iz (x:Int),Iz (x:Int), .bool false]) (by simp[results,Tryz.results45,go_sem]) rfl ?_;exact⟨rfl,dW B0 b1⟩
 ·have y1:¬(x:Int)<P.E.length:=ae
  have e3:Z=true:=by rw[EZ.h,decide_eq_true_iff];omega
  clear EZ;subst e3;have bE:=ao D;clear D;go_wp2_with fail
  go_loop [8,9] (fun a k=> ∃m:Nat,m<=P.E.length/\k= Iz (m:Int)/\a= Iz ((P.E.length+oA P.E.length m:Nat):Int)/\P.E.length+oA P.E.length m<=x) (fun _ k=>P.E.length - (intOf k).toNat)
  case atStart=>exact⟨0,aB _,rfl,rfl,by have:=bE.h;simp[oA];omega⟩
  case round=>
   obtain⟨m,hm,rfl,rfl,hle⟩:=hrel
   by_cases D:m<P.E.length
   ·have a0:oA P.E.length (m+1)=oA P.E.length m+(P.E.length - 1 - m):=rfl
    obtain⟨a,ea⟩:=Zn (P.E.length+oA P.E.length m:Nat);rw[<-ea] at hle⊢;have a1:(a:Int)<=21:=ae;have y2:(m:Int)<P.E.length:=ae;obtain⟨EA,HO,bH,a2⟩:=mh ea a0 hle D;clear ea a0 hle D hm;go_wp2_with fail
    go_loop [8,10] (fun v k=> ∃j:Nat,m+1<=j/\j<=P.E.length/\k= Iz (j:Int)/\v= Iz ((a+(j - m - 1):Nat):Int)/\a+(j - m - 1)<=x) (fun _ k=>P.E.length - (intOf k).toNat)
    case atStart=>exact⟨m+1,af _,a2,fE ae,fE ae,cA bH.h⟩
    case round=>
     obtain⟨j,bQ,bR,rfl,rfl,O⟩:=hrel;obtain⟨v,ev⟩:=Zn (a+(j - m - 1):Nat);rw[<-ev] at O⊢;have v1:(v:Int)<=21:=ae
     by_cases ax:j<P.E.length
     ·have y3:(j:Int)<P.E.length:=ae
      by_cases a5:v=x
      ·have a6:=BU P.E.length ae m ae j ae ae ax
       have hs:fv P.E.length m j=x:=by rw[<-a5,ev,EA.h];unfold fv;omega
       rw[hs] at a6;have hL:=a6.2.2;have e1:(v:Int)=x:=ae;have e3:I=(m:Int):=by rw[EI.h,hL]
       have e4:J=(j:Int):=by rw[EJ.h,hL]
       clear EI EJ;subst e3 e4;obtain⟨bb,EV⟩:=dF a5 ev;clear a6 hs hL a5 ev O ax;have e2:((v:Int)==(x:Int))=true:=by rw[e1];simp
       clear e1;go_wp2_with fail;refine bodyPost_ret (v:= .tuple #[Iz (m:Int),Iz (j:Int), .bool true]) (by simp[results,Tryz.results45,go_sem]) rfl ?_;exact⟨rfl,dW B0 b1⟩
      ·have e2:((v:Int)==(x:Int))=false:=by rw[beq_eq_false_iff_ne];omega
       obtain⟨bb,EV,a7,a8⟩:=mh a5 ev O ax;clear a5 ev O ax;go_wp2_with fail
       go_round
       case rel=>exact⟨j+1,ae,cA a8.h,by go_num,fE (cA EV.h),QF bb.h a7.h EV.h⟩
       case measure=>have:=a8.h;simp[intOf];omega
     ·obtain rfl:j=P.E.length:=ae
      obtain⟨EV,a7,a8⟩:=fY ev O ax;clear ev O ax;go_wp2_with fail
      go_round
      case rel=>
       refine⟨_,_,_,_,_,⟨m+1,a2,rfl,rfl,?_⟩,rfl,rfl,rfl,fE ?_,by go_num⟩
       ·have:=EV.h;have:=EA.h;have:=HO.h;have:=a7.h;have:=a2.h;omega
       ·have:=EV.h;have:=EA.h;have:=HO.h;have:=a2.h;omega
      case measure=>have:=a2.h;simp[intOf];omega
   ·obtain rfl:m=P.E.length:=ae
    omega
end Go.Proofs.YtbaaheidifacaaaGreat
