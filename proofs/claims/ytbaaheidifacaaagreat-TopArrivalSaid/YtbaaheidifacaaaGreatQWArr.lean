import Derived.Test.YtbaaheidifacaaaGreatQArgsT
import Derived.Test.YtbaaheidifacaaaGreatQAwk1
import Derived.Test.YtbaaheidifacaaaGreatQLawArr
set_option linter.defProp false
set_option linter.unusedVariables false
set_option linter.unusedSimpArgs false
set_option maxRecDepth 100000
set_option maxHeartbeats 12800000
namespace Go.Proofs.YtbaaheidifacaaaGreat
variable {Gs':Nat→Prop} {L:List (Int×Int)} {P:PD} {X:List (Int×Int×Int)} {i:Nat} {m:Mk} {p q:Int}
open Go.RowKit
theorem acO {B D:Nat} {w w':World} (e:B=D) (h:Below B w w'):Below D w w':=e▸h
structure adN (P:PD):Prop where
 rule:P.rule=1
 n:0<P.n
 cnt:0<P.count
 fy:∀p∈([0,5,10,15,20,25,1000]:List Int),P.oY 0 p=0
theorem adS:adN (gV 1):=⟨rfl,by decide,by decide,by decide⟩
def ac5 (L:List (Int×Int)):Int:=(L.map (·.2)).sum
theorem adI (L:List (Int×Int)) (p q:Int):ac5 (L++[(p,q)])=ac5 L+q:=by simp[ac5]
structure adv (P:PD) (m:Mk) (L:List (Int×Int)):Prop where
 s:ado m.S L
 u:∀i,m.used i=true→i≤(L.length:Int)
 c:cK m.S≤L.length
 p:∀a∈L,a.1∈([0,5,10,15,20,25]:List Int)
 q:∀a∈L,1≤a.2∧a.2≤21
theorem adJ:∀{L:List (Int×Int)},(∀a∈L,1<=a.2/\a.2<=21)->0<=ac5 L/\ac5 L<=21*L.length
 |[],_=>by simp[ac5]
 |a::L,h=>by
  have D:=h a bT;have I:=adJ (L:=L) fun x hx=>h x (by simp[hx]);have e:ac5 (a::L)=a.2+ac5 L:=by simp[ac5]
  rw[e,bI,Int.natCast_succ];omega
theorem adv.new (P:PD) (h:0<P.count):adv P (Mk.new P) []:=by
 refine⟨ado.new P h,fun i hi=>(by cases hi),?_,fun a ha=>(by simp at ha),fun a ha=>(by simp at ha)⟩;unfold Mk.new cK;simp only;rw[List.map_replicate];simp[BM.I,gY]
theorem adO (I:adN P) (hF:V0 P m) (h:adv P m L) (hL:L.length<30) (hp:p∈([0,5,10,15,20,25]:List Int)) (hq:1<=q/\q<=21):
  adv P (pC P m ⟨1,(L.length:Int)+1,0,2,p,q,0,1,[]⟩).1 (L++[(p,q)]):=by
 have O:0<=p/\p<=25:=by simp only[a9,xd,or_false] at hp;omega
 have hr:dx ⟨1,(L.length:Int)+1,0,2,p,q,0,1,[]⟩=0:=Mx ⟨ae,ae⟩ ⟨ae,ae⟩ (.inr rfl) ⟨ae,ae⟩ ⟨ae,ae⟩ ⟨ae,ae⟩ ⟨ae,ae⟩ (.inl rfl);have hw:P.oY 0 p=0:=I.fy p (by simp only[a9,xd,or_false] at hp⊢;omega);have hu:m.used ((L.length:Int)+1)=false:=by
  cases h':m.used ((L.length:Int)+1) with
  |false=>rfl
  |true=>have:=h.u _ h';omega
 obtain⟨l,h1,_⟩:=h.s.ex;have hc:=h.c;have hd:pC P m ⟨1,(L.length:Int)+1,0,2,p,q,0,1,[]⟩=iE P m ((L.length:Int)+1) 0 1 p q 1:=by
  unfold pC;rw[hr,if_neg ae,if_pos rfl];unfold lW;simp only;rw[hw,if_neg ae,hu,if_neg bT,if_neg ae,if_neg (by rw[if_neg ae];omega),if_neg (fun e=>by
   have D:=adt I.n h1 p q;have J:=e.2;rw[show((0:Int).toNat)=0 from rfl,show((2:Int) - 1).toNat=1 from rfl,D] at J
   cases J)]
  rfl
 refine⟨?_,fun i hi=>?_,?_,fun a ha=>?_,fun a ha=>?_⟩
 ·rw[hd]
  exact h.s.add I.n hF.f hq.1
 ·rw[aC,List.length_singleton]
  rcases abB hi with D|D
  ·rw[D];show(L.length:Int)+1<=_;omega
  ·have:=h.u i D;omega
 ·have:=(Tb hF.f hF.su ⟨1,(L.length:Int)+1,0,2,p,q,0,1,[]⟩).count
  rw[aC,List.length_singleton];omega
 ·rcases aJ.1 ha with ha|ha
  ·exact h.p a ha
  ·rw[List.mem_singleton.1 ha];exact hp
 ·rcases aJ.1 ha with ha|ha
  ·exact h.q a ha
  ·rw[List.mem_singleton.1 ha];exact hq
theorem adK (D:adN P) (hF:V0 P m) (h:adv P m L) (I:L.length<=30) (hq:1<=q/\q<=630):
  ∃a R,(pC P m ⟨1,500,0,1,1000,q,0,2,[]⟩).2=a::R/\R.filter acT=acP (acW L 0) q:=by
 have hr:dx ⟨1,500,0,1,1000,q,0,2,[]⟩=0:=Mx ⟨ae,ae⟩ ⟨ae,ae⟩ (.inl rfl) ⟨ae,ae⟩ ⟨ae,ae⟩ ⟨ae,ae⟩ ⟨ae,ae⟩ (.inl rfl);have hw:P.oY 0 1000=0:=D.fy 1000 bT;have hu:m.used 500=false:=by
  cases J:m.used 500 with
  |false=>rfl
  |true=>have:=h.u _ J;omega
 have hc:=h.c;obtain⟨l,O,h2,h3⟩:=h.s.flat hF.f h.p I;have hd:pC P m ⟨1,500,0,1,1000,q,0,2,[]⟩=iE P m 500 0 0 1000 q 2:=by
  unfold pC;rw[hr,if_neg ae,if_pos rfl];unfold lW;simp only;rw[hw,if_neg ae,hu,if_neg bT,if_neg ae,if_neg (by rw[if_neg ae];omega),if_neg ae];rfl
 rw[hd,<-h3];exact adz D.rule D.n O h2 ae
theorem adE {x left:Int} (hi:L[i]?=some (p,q)) (hx:p=x) (D:1<=left):
  acP (acU L x i++X) left=⟨3,(i:Int)+1,0,2,x,min q left,q - min q left,0⟩::acP (acU L x (i+1)++X) (left - min q left):=by
 rw[adl hi,if_pos hx];show acP ((x,(i:Int)+1,q)::(acU L x (i+1)++X)) left=_
 conv=>lhs;unfold acP
 rw[if_neg ae]
theorem adh {x left:Int} (hi:L[i]?=some (p,q)) (hx:p≠x\/left=0):
  acP (acU L x i++X) left=acP (acU L x (i+1)++X) left:=by
 rcases hx with hx|hx
 ·rw[adl hi,if_neg hx,List.nil_append]
 ·rw[acQ ae,acQ ae]
structure ac4 (B:Nat) (w:World) (g:Nat) (P:PD) (C:zt) (Gs R:Nat→Prop) (m:Mk) (i:Nat) (v u:Value) (n nq:Nat) (xs ys:List Value):Prop where
 mf:cC (fun j=>j<B∨v.ownBlock=some j∨u.ownBlock=some j) w g P C Gs R m i
 op:w.ownsRow B 2 1 v n xs
 oq:w.ownsRow B 2 1 u nq ys
 ne:∀j,v.ownBlock=some j→u.ownBlock≠some j
section
variable {B:Nat} {w w':World} {g:Nat} {P:PD} {C:zt} {Gs R:Nat→Prop} {m:Mk} {i:Nat} {v u v':Value} {n nq:Nat} {xs ys zs:List Value}
theorem ac4.XF (h:ac4 B w g P C Gs R m i v u n nq xs ys) (ho:w'.ownsRow B 2 1 v' (n+1) zs) (hg:w.grownBy w' v.ownBlock) (hl:v'.ownBlock=v.ownBlock\/v'.ownBlock=some (w.heap.size+1)):
  ac4 B w' g P C Gs R m i v' u (n+1) nq zs ys:=by
 have I:Lv (fun j=>v.ownBlock=some j) w w':=Lv.dy hg fun k hk=> .inl hk;have h1:cC (fun j=>(j<B\/v.ownBlock=some j\/u.ownBlock=some j)\/v'.ownBlock=some j) w g P C Gs R m i:=h.mf.more fun j D=>by
  rcases D with D|D
  ·exact .inl D
  ·rcases hl with J|J
   ·exact .inl (.inr (.inl (J▸D)))
   ·rw[J] at D;injection D with D;exact .inr ae
 have J:=h1.lv I fun j D=> .inl (.inr (.inl D));refine⟨J.more fun j D=>?_,ho,aX h.oq fun j D=>I.block j (h.oq.lt j D).2 fun hv=>h.ne j hv D,fun j D hu=>?_⟩
 ·rcases D with D|D|D
  ·exact .inl (.inl (.inl D))
  ·exact .inl (.inr D)
  ·exact .inl (.inl (.inr (.inr D)))
 ·rcases hl with O|O
  ·exact h.ne j (O▸D) hu
  ·rw[O] at D;injection D with D
   have:=(h.oq.lt j hu).2;omega
theorem ac4.adR (h:ac4 B w g P C Gs R m i v u n nq xs ys) (ho:w'.ownsRow B 2 1 v' (nq+1) zs) (hg:w.grownBy w' u.ownBlock) (hl:v'.ownBlock=u.ownBlock\/v'.ownBlock=some (w.heap.size+1)):
  ac4 B w' g P C Gs R m i v v' n (nq+1) xs zs:=by
 have I:Lv (fun j=>u.ownBlock=some j) w w':=Lv.dy hg fun k hk=> .inl hk;have h1:cC (fun j=>(j<B\/v.ownBlock=some j\/u.ownBlock=some j)\/v'.ownBlock=some j) w g P C Gs R m i:=h.mf.more fun j D=>by
  rcases D with D|D
  ·exact .inl D
  ·rcases hl with J|J
   ·exact .inl (.inr (.inr (J▸D)))
   ·rw[J] at D;injection D with D;exact .inr ae
 have J:=h1.lv I fun j D=> .inl (.inr (.inr D));refine⟨J.more fun j D=>?_,aX h.op fun j D=>I.block j (h.op.lt j D).2 fun hv=>h.ne j D hv,ho,fun j D hu=>?_⟩
 ·rcases D with D|D|D
  ·exact .inl (.inl (.inl D))
  ·exact .inl (.inl (.inr (.inl D)))
  ·exact .inl (.inr D)
 ·rcases hl with O|O
  ·exact h.ne j D (O▸hu)
  ·rw[O] at hu;injection hu with hu
   have:=(h.op.lt j D).2;omega
theorem ac4.fl (h:ac4 B w g P C Gs R m i v u n nq xs ys) (I:B<=w.heap.size):∀j,(j<B\/v.ownBlock=some j\/u.ownBlock=some j)->j<w.heap.size:=fun j D=>by
 rcases D with D|D|D
 ·omega
 ·exact(h.op.lt j D).2
 ·exact(h.oq.lt j D).2
theorem ac4.done {m':Mk} {I:Nat} (h:ac4 B w g P C Gs R m i v u n nq xs ys) (hm:cC (fun j=>j<B\/v.ownBlock=some j\/u.ownBlock=some j) w' g P C Gs' R m' I) (J:Lv (fun j=> ¬(j<B\/v.ownBlock=some j\/u.ownBlock=some j)) w w'):
  ac4 B w' g P C Gs' R m' I v u n nq xs ys:=
 ⟨hm,aX h.op fun j D=>J.block j (h.op.lt j D).2 fun hn=>hn (.inr (.inl D)),aX h.oq fun j D=>J.block j (h.oq.lt j D).2 fun hn=>hn (.inr (.inr D)),h.ne⟩
end
theorem ac7 (a0:Option Addr) (c0:Nat) (ps:List Int) (a1:Option Addr) (c1:Nat) (qs:List Int) (take:Int) (w:World) (h0:TO .i64 w a0 c0 ps) (h1:TO .i64 w a1 c1 qs) (h2:(Lit.int .i64 take).wf=true):
  Wz 9 #[.slice a0 ps.length c0, .slice a1 qs.length c1,Iz take] w fun e w'=>e= .returned (.bool true)/\Bz w w':=by
 replace h2:=V9 h2;have f0:Hid (Cells w a0 (bZ ps)):=ao h0.cells;have f1:Hid (Cells w a1 (bZ qs)):=ao h1.cells;have f2:Hid (∀n∈ps,(Lit.int .i64 n).wf=true):=ao h0.wf;have f3:Hid (∀n∈qs,(Lit.int .i64 n).wf=true):=ao h1.wf;have hV:ps.length<=9223372036854775807:=by have h3:=h0.le;have h4:=h0.max;unfold maxLen at h4;omega
 have cT:qs.length<=9223372036854775807:=by have h3:=h1.le;have h4:=h1.max;unfold maxLen at h4;omega
 have f4:=ao h2;clear h0 h1 h2
 go_enter Tryz.func9,Tryz.ntmps9
 go_wp2_with fail;refine(MO 1 ⟨ae,ae⟩ w).mono ?_;rintro e w1⟨ma,mc,sa,sc,rfl,cX,eu,b1⟩;obtain⟨P,eP⟩:∃P,P=gV 1:=⟨_,rfl⟩;have ew:adN P:=eP▸adS;rw[show gV 1=P from eP.symm] at cX⊢;have dc:=ao ew;clear eP ew;simp only[PD.val]
 go_upto_region 2 with(fail)
 obtain⟨w2,bf⟩:∃v,v=w1.alloc (.cells (P.cells ma mc sa sc) 25):=⟨_,rfl⟩;obtain⟨gp,dp⟩:∃v,v=w1.heap.size:=⟨_,rfl⟩;have D2:fM w2 gp P ma mc sa sc:=bf▸dp▸fM.new _ _ _ _ _ _;have B2:=Zw bf;unfold PD.cells at bf;rw[<-bf,<-dp];obtain⟨ey,dS⟩:=dF (cX.below B2) (dW b1 B2);clear bf dp cX eu b1 B2;have z0:Cz w2 gp 0 (.string (str P.code)):=D2.cell 0;have z1:Cz w2 gp 1 (.slice ma P.E.length mc):=D2.cell 1;have z2:Cz w2 gp 2 (Iz P.tick):=D2.cell 2;have z3:Cz w2 gp 3 (Iz P.low):=D2.cell 3;have z4:Cz w2 gp 4 (Iz P.high):=D2.cell 4;have z5:Cz w2 gp 5 (Iz P.wide):=D2.cell 5;have z6:Cz w2 gp 6 (Iz P.rule):=D2.cell 6;have z7:Cz w2 gp 7 (Iz P.top):=D2.cell 7;have z8:Cz w2 gp 8 (Iz P.least):=D2.cell 8;have z9:Cz w2 gp 9 (Iz P.part):=D2.cell 9;have f5:Cz w2 gp 10 (.slice sa P.settle.length sc):=D2.cell 10;go_wp2_with fail;refine(JK P ma mc sa sc w2 ey.h).mono ?_;clear z0 z1 z2 z3 z4 z5 z6 z7 z8 z9 f5 D2;rintro e w3⟨g,C,ez,R,rfl,eA,b3,l1,l2,l3⟩;obtain⟨B,eB⟩:∃B,B=w2.heap.size:=⟨_,rfl⟩;have eC:Below B w2 w3:=acO eB.symm b3;rw[<-eB] at l1 l2 l3;have dT:w.heap.size<=B:=eB▸dS.h.size;have eD:ac4 B w3 g P C ez R (Mk.new P) 0 (.slice none 0 0) (.slice none 0 0) 0 0 (bZ []) (bZ []):=
  ⟨(cC.new eA l1 l2 l3).more fun j hj=>(by
    rcases hj with hj|hj|hj
    ·exact .inl hj
    ·cases hj
    ·cases hj),aM _ _ _ _,aM _ _ _ _,fun j hj=>(by cases hj)⟩
 have eE:Bz w w3:=dS.h.trans (eC.mono dT);have eF:B<=w3.heap.size:=eB▸b3.size;obtain⟨f6,d2,d3,bU⟩:=mh eD eE dT eF;have f7:Hid (adv P (Mk.new P) []):=ao (adv.new P dc.h.cnt);clear eA b3 eC l1 l2 l3 eB dT eD eE eF ey dS;go_wp2_with fail
 go_loopw [10,11,12,13] (fun pv qv av iv wr=> ∃(k:Nat) (L:List (Int×Int)) (Ap Aq:Option Addr) (cp cq:Nat) (m:Mk) (Gs:Nat->Prop),k<=30/\k<=ps.length/\k<=qs.length/\pv= .slice Ap k cp/\qv= .slice Aq k cq/\av= Iz (ac5 L)/\iv= Iz k/\Hid (L.length=k)/\Hid (adv P m L)/\Hid (ac4 B wr g P C Gs R m k (.slice Ap k cp) (.slice Aq k cq) k k (bZ (L.map (·.1))) (bZ (L.map (·.2))))/\Hid (Below B w3 wr)) (fun _ _ _ iv _=>30 - (intOf iv).toNat)
 case atStart=>exact⟨0,[],none,none,0,0,Mk.new P,ez,aB _,aB _,aB _,rfl,rfl,rfl,rfl,ao rfl,f7,f6,ao (aa _ _)⟩
 case round=>
  obtain⟨k,L,Ap,Aq,cp,cq,m,Gs,hk,hW,hX,rfl,rfl,rfl,rfl,HL,HM,HW,HB⟩:=hrel;obtain⟨wo,rfl⟩:∃wo,wo=wr:=⟨_,rfl⟩;have eG:B<=wo.heap.size:=aF bU.h HB.h.size;have d4:=ao eG;clear eG;have ax:=adJ HM.h.q;rw[HL.h] at ax
  by_cases hc:k<ps.length/\k<qs.length/\k<30
  ·obtain⟨j0,j1,j2⟩:=hc
   have bw:Bz w wo:=d2.h.trans (HB.h.mono d3.h);obtain⟨b0,o0,x0,rfl,f8,f9,eI⟩:=(f0.h.below bw).jK (k:=k) j0;obtain⟨b1,o1,x1,rfl,gb,gi,eJ⟩:=(f1.h.below bw).jK (k:=k) j1;have hQ:=V9 (f2.h x0 (aH eI.h));have hT:=V9 (f3.h x1 (aH eJ.h));have eK:=cW x0 0 5 ae;have I:=cW x1 0 20 ae;obtain⟨pp,d5⟩:∃v,v=within x0 0 5:=⟨_,rfl⟩;obtain⟨qq,d6⟩:∃v,v=within x1 0 20:=⟨_,rfl⟩;rw[<-d5] at eK;rw[<-d6] at I;obtain⟨sm,a8⟩:∃v,v=ac5 L:=⟨_,rfl⟩;rw[<-a8] at ax⊢;obtain⟨p5,eL⟩:∃v,v=5*pp:=⟨_,rfl⟩;obtain⟨q1,eM⟩:∃v,v=1+qq:=⟨_,rfl⟩;have n5:IntKind.i64.wrap (5*pp)=p5:=eL▸aN _ ae;have n1:IntKind.i64.wrap (1+qq)=q1:=eM▸aN _ ae;have a2:1<=q1/\q1<=21:=ae;have eO:p5∈([0,5,10,15,20,25]:List Int):=by
    simp only[a9,xd,or_false];omega
   obtain⟨s2,d7⟩:∃v,v=sm+q1:=⟨_,rfl⟩;have ns:IntKind.i64.wrap (sm+q1)=s2:=d7▸aN _ ae;have ba:s2=ac5 (L++[(p5,q1)]):=by rw[adI,d7,a8]
   have i0:(k:Int)<ps.length:=ae;have i1:(k:Int)<qs.length:=ae;have i2:(k:Int)<30:=ae;obtain⟨gj,gq,bh,gv,gx,N5,N1,NS,J⟩:=QG d5 d6 a2 eO ba n5 n1 ns (And.intro j0 (And.intro j1 j2));clear eI eJ f8 gb eK I d5 d6 a8 eL eM a2 eO d7 ba n5 n1 ns j0 j1 j2 ax bw;go_wp2_with fail;refine(dg x0 0 5 _ ae ae ae).mono ?_;rw[<-gj.h];rintro e u⟨rfl,rfl⟩;have n5:=N5.h;go_wp2_with fail;refine(dg x1 0 20 _ ae ae ae).mono ?_;rw[<-gq.h];rintro e u⟨rfl,rfl⟩;have n1:=N1.h;clear f9 gi
   go_upto_region 12 with(fail)
   clear n5 n1 i0 i1 i2;have own:=HW.h.op
   go_upto_region 13 with(at_builtin;refine dO sL own #[Iz p5] rfl _ _ rfl rfl rfl rfl (by intro u hu;simp at hu;subst hu;rfl) ae d4.h ?_;intro A3 c3 w4 ck g4 b4 l4;obtain⟨eQ,eR⟩:=dF (b4 _ _ (af _) HB.h) (HW.h.XF ck g4 l4);have eS:B<=w4.heap.size:=aF bU.h eQ.h.size;have gy:=ao eS;have own':=eR.h.oq;clear own ck g4 b4 l4 eS)
   go_upto_region 14 with(at_builtin;refine dO sL own' #[Iz q1] rfl _ _ rfl rfl rfl rfl (by intro u hu;simp at hu;subst hu;rfl) ae gy.h ?_;intro A5 c5 w5 cl g5 b5 l5;obtain⟨d8,bV⟩:=dF (b5 _ _ (af _) eQ.h) (eR.h.adR cl g5 l5);have ns:=NS.h;clear own' cl g5 b5 l5)
   have bt:=bV.h.fl (aF bU.h d8.h.size);have a3:=abc _ g P m Gs R C ⟨1,(k:Int)+1,0,2,p5,q1,0,1,[]⟩ k w5 bV.h.mf bt ae (by have:=bh.h;show q1<=12000;omega) (by show(0:Nat)<=_;omega);have b2:=adO dc.h bV.h.mf.ZC.V2 HM.h (HL.h▸J.h.2.2) gv.h bh.h;rw[HL.h] at b2;obtain⟨res,a4⟩:∃x,x=pC P m ⟨1,(k:Int)+1,0,2,p5,q1,0,1,[]⟩:=⟨_,rfl⟩;unfold DoF at a3;rw[<-a4] at a3 b2;obtain⟨bE,gA⟩:=dF a3 b2;clear bt a3 b2 a4;go_wp2_with fail;refine bE.h.mono ?_;clear bE;rintro e w6⟨A1,gG,Gs',rfl,ay,hN,bH,a5⟩;have eT:=ao (bV.h.done bH a5);have eU:Below B w3 w6:=d8.h.trans (a5.below (fun j hj=>by apply Nat.le_of_not_lt;intro h;exact hj (.inl h)) (aF bU.h d8.h.size));have gI:=ao eU;have e1:bZ ((L++[(p5,q1)]).map (·.1))=bZ (L.map (·.1))++[Iz p5]:=by simp[bZ]
   have e2:bZ ((L++[(p5,q1)]).map (·.2))=bZ (L.map (·.2))++[Iz q1]:=by simp[bZ]
   have gO:Hid (ac4 B w6 g P C Gs' R res.1 (k+1) (.slice A3 (k+1) c3) (.slice A5 (k+1) c5) (k+1) (k+1) (bZ ((L++[(p5,q1)]).map (·.1))) (bZ ((L++[(p5,q1)]).map (·.2)))):=ao (e1▸e2▸eT.h);have gP:Hid ((L++[(p5,q1)]).length=k+1):=ao (by rw[aC,HL.h];rfl);clear ay hN bH a5 eU e1 e2 eT;go_wp2_with fail;rw[gx.h];go_roundw
   case rel=>exact⟨k+1,L++[(p5,q1)],A3,A5,c3,c5,res.1,Gs',J.h.2.2,J.h.1,J.h.2.1,rfl,rfl,rfl,by go_num,gP,gA,gO,gI⟩
   case measure=>have:=J.h;simp[intOf];omega
  ·have cm:Hid (¬k<ps.length\/(k<ps.length/\¬k<qs.length)\/(k<ps.length/\k<qs.length/\¬k<30)):=ao ae
   have eV:=ao ax;clear hc ax
   go_upto_region 8 with(fail)
   go_cut [47] (fun v wx=>v= .bool false/\wo=wx)
   case first=>
    rcases cm.h with h|⟨h,h'⟩|⟨h,h',gR⟩
    ·have i0:¬(k:Int)<ps.length:=ae
     clear h;go_wp2_with fail;go_meet;exact⟨rfl,rfl⟩
    ·have i0:(k:Int)<ps.length:=ae
     have i1:¬(k:Int)<qs.length:=ae;clear h h';go_wp2_with fail;go_meet;exact⟨rfl,rfl⟩
    ·have i0:(k:Int)<ps.length:=ae
     have i1:(k:Int)<qs.length:=ae;have i2:¬(k:Int)<30:=ae;clear h h' gR;go_wp2_with fail;go_meet;exact⟨rfl,rfl⟩
   obtain⟨rfl,rfl⟩:=hcut;have ax:=eV.h;obtain⟨sm,a8⟩:∃v,v=ac5 L:=⟨_,rfl⟩;rw[<-a8] at ax⊢;have I:=cW take 0 sm ax.1;obtain⟨qt,d9⟩:∃v,v=within take 0 sm:=⟨_,rfl⟩;rw[<-d9] at I;obtain⟨gT,ea,g3⟩:=fY d9 I ax;have g6:=f4.h;have eW:Bz w wo:=d2.h.trans (HB.h.mono d3.h);have eY:=ao eW;clear d9 I a8 cm eV eW;go_wp2_with fail;refine(dg take 0 sm _ ae ae ae).mono ?_;rw[<-gT.h];rintro e u⟨rfl,rfl⟩;clear ax g6
   by_cases a6:qt=0
   ·subst a6
    go_wp2_with fail;refine(Qw wo).mono ?_;rintro e v9⟨rfl,b9⟩;go_wp2_with fail;go_ret;exact⟨rfl,dW eY.h b9⟩
   ·have e0:(qt==0)=false:=beq_eq_false_iff_ne.2 a6
    have bt:=HW.h.fl d4.h;have a2:1<=qt/\qt<=630:=jE ea.h g3.h;have a3:=abc _ g P m Gs R C ⟨1,500,0,1,1000,qt,0,2,[]⟩ k wo HW.h.mf bt ae (by show qt<=12000;omega) (by show(0:Nat)<=_;omega);obtain⟨r1,RL,hR,cn⟩:=adK dc.h HW.h.mf.ZC.V2 HM.h (HL.h▸hk) a2;unfold DoF at a3;obtain⟨res,a4⟩:∃x,x=pC P m ⟨1,500,0,1,1000,qt,0,2,[]⟩:=⟨_,rfl⟩;rw[<-a4] at a3 hR;obtain⟨bE,eZ,ct,bh⟩:=mh a3 hR cn a2;clear bt a3 hR cn a4 a6 a2;go_wp2_with fail;refine bE.h.mono ?_;clear bE;rintro e w5⟨A1,gG,Gs',rfl,ay,hN,bH,a5⟩;have eb:=HW.h.done bH a5;have e3:Below B w3 w5:=HB.h.trans (a5.below (fun j hj=>by apply Nat.le_of_not_lt;intro h;exact hj (.inl h)) d4.h);have cv:Bz w w5:=d2.h.trans (e3.mono d3.h);obtain⟨RR,ed⟩:∃x,x=res.2:=⟨_,rfl⟩;rw[<-ed] at ay hN⊢;obtain⟨N,eN⟩:∃x,x=RR.length:=⟨_,rfl⟩;rw[<-eN] at ay hN⊢;have ef:RR=r1::RL:=ed.trans eZ.h;have e4:(RR.drop 1).filter acT=acP (acW L 0) qt:=by rw[ef,List.drop_succ_cons,List.drop_zero];exact ct.h
    have e5:0<N:=by rw[eN,ef];simp
    obtain⟨g7,g8,g9,EN,hh,e6,hl,ho⟩:=Dw (dP.O ay) (Cells.O eb.op) (Cells.O eb.oq) eN e4 cv hN e5;clear ay hN bH a5 eb e3 cv ed eN ef e4 e5 eZ ct HW eY HB;go_wp2_with fail
    go_loopw [16,18,19] (fun lv av xv wr=> ∃(j n:Nat) (q:Int),j<=6/\n<N/\lv= Iz q/\av= Iz n/\xv= Iz (5*(j:Int))/\Hid (0<=q/\q<=630)/\Hid ((RR.drop (n+1)).filter acT=acP (acW L j) q)/\Hid (Bz w5 wr)) (fun _ _ xv _=>30 - (intOf xv).toNat)
    case atStart=>exact⟨0,0,qt,aB _,ho.h,rfl,rfl,rfl,ao ⟨cA bh.h,bh.h.2⟩,hh,ao (aa _ _)⟩
    case round=>
     obtain⟨j,n,q,hj,hn,rfl,rfl,rfl,HQ,HD,HB⟩:=hrel;obtain⟨wq,rfl⟩:∃wo,wo=wr:=⟨_,rfl⟩;obtain⟨xj,bb⟩:∃v,v=5*(j:Int):=⟨_,rfl⟩;rw[<-bb];have ht:=ao bb
     by_cases b6:j<6
     ·have i0:xj<=25:=ae
      have cF:(RR.drop (n+1)).filter acT=acP (acU L xj 0++acW L (j+1)) q:=by rw[HD.h,adD b6,bb]
      obtain⟨cH,e7⟩:=dF cF b6;have eg:IntKind.i64.wrap (xj+5)=5*((j+1:Nat):Int):=by rw[bb,(ae:5*(j:Int)+5=5*((j+1:Nat):Int))];exact aN _ ae
      have W5:=ao eg;clear bb cF b6 eg;go_wp2_with fail;clear i0
      go_loopw [16,18,20] (fun lv av iv wr=> ∃(i n:Nat) (q:Int),i<=k/\n<N/\lv= Iz q/\av= Iz n/\iv= Iz i/\Hid (0<=q/\q<=630)/\Hid ((RR.drop (n+1)).filter acT=acP (acU L xj i++acW L (j+1)) q)/\Hid (Bz w5 wr)) (fun _ _ iv _=>k - (intOf iv).toNat)
      case atStart=>exact⟨0,n,q,aB _,hn,rfl,rfl,rfl,HQ,cH,HB⟩
      case round=>
       clear hn HQ cH HD HB;obtain⟨i,n,q,hi,hn,rfl,rfl,rfl,HQ,HD,HB⟩:=hrel;obtain⟨wp,rfl⟩:∃wo,wo=wr:=⟨_,rfl⟩
       by_cases b7:i<k
       ·have b8:i<L.length:=by rw[HL.h];exact b7
        obtain⟨⟨p,qq⟩,bQ⟩:∃a,L[i]?=some a:=⟨_,aj b8⟩;have I:=HM.h.q _ (aH bQ);obtain⟨bp,op,x,rfl,hy,hz,e9⟩:=(g8.h.below HB.h).jK (k:=i) (by rw[br];exact b8);obtain rfl:x=p:=by have h:=e9.h;rw[bo,bQ] at h;exact(bW h).symm
        obtain⟨bq,oq,y,rfl,hB,fa,ff⟩:=(g9.h.below HB.h).jK (k:=i) (by rw[br];exact b8);obtain rfl:y=qq:=by have h:=ff.h;rw[bo,bQ] at h;exact(bW h).symm
        replace I:1<=y/\y<=21:=I;have i0:(i:Int)<k:=ae;obtain⟨ei,bc,ea⟩:=fY bQ b7 I;clear bQ b7 I e9 ff hy hB b8
        by_cases hx:x=xj
        ·subst hx
         by_cases a6:q=0
         ·subst a6
          have a7:=HD.h;rw[adh ei.h (.inr rfl)] at a7;have ej:=ao a7;clear a7 fa;go_wp2_with fail;go_roundw
          case rel=>exact⟨i+1,n,0,bc.h,hn,rfl,rfl,by go_num,HQ,ej,HB⟩
          case measure=>have:=bc.h;simp[intOf];omega
         ·have e0:(q==0)=false:=beq_eq_false_iff_ne.2 a6
          have a2:1<=q:=cA HQ.h;have bR:=adE (X:=acW L (j+1)) ei.h rfl a2;obtain⟨mn,ek⟩:∃v,v=min y q:=⟨_,rfl⟩;rw[<-ek,<-HD.h] at bR;obtain⟨FF,el⟩:∃v,v=acP (acU L x (i+1)++acW L (j+1)) (q - mn):=⟨_,rfl⟩;obtain⟨iv,cd⟩:∃v,v=(i:Int)+1:=⟨_,rfl⟩;rw[<-el,<-cd] at bR;have I:=ea.h;have hC:=HQ.h;have nq:IntKind.i64.wrap (q - mn)=q - mn:=aN _ ae;have ny:IntKind.i64.wrap (y - mn)=y - mn:=aN _ ae;have ni:IntKind.i64.wrap ((i:Int)+1)=iv:=cd▸aN _ ae;have cT:n+1<N:=by
           obtain⟨r,hr,_⟩:=adp bR;rw[EN.h];exact(az.1 hr).1
          have hY:N<=18036003:=hl.h;have fi:0<=q - mn/\q - mn<=630:=ae;have eo:(iv==500)=false:=beq_eq_false_iff_ne.2 ae;obtain⟨hD,fk,hE,fq,hG,hH,NY,NI,hI,NQ⟩:=QM bR ek el cd fi cT ny ni eo nq;clear bR ek el cd I hC nq ny ni a6 a2 fi cT eo
          go_upto_if 116 with(fail)
          go_cut [21] (fun v wx=>v= Iz mn/\wp=wx)
          case first=>
           by_cases h5:q<y
           ·have hm:mn=q:=by rw[fk.h];omega
            go_wp2_with fail;go_meet;exact⟨by rw[hm],rfl⟩
           ·have hm:mn=y:=by rw[fk.h];omega
            go_wp2_with fail;go_meet;exact⟨by rw[hm],rfl⟩
          obtain⟨rfl,rfl⟩:=hcut;have nq:=NQ.h;clear hz e0;go_wp2_with fail
          go_loopw [18] (fun av wr=> ∃n2:Nat,n2<N/\av= Iz n2/\Hid ((RR.drop n2).filter acT=⟨3,iv,0,2,x,mn,y - mn,0⟩::FF)/\wp=wr) (fun av _=>N - (intOf av).toNat)
          case atStart=>exact⟨n+1,hH.h,by go_num,hD,rfl⟩
          case round=>
           clear hn;obtain⟨n2,cQ,rfl,hJ,rfl⟩:=hrel;obtain⟨r,hr,ep,ba⟩:=adp hJ.h;obtain⟨b,o,r',rfl,hb,er,D⟩:=Tg (g7.h.below HB.h) (m:=n2) (EN.h▸cQ);obtain rfl:r'=r:=bW (er.symm.trans hr);have i2:(n2:Int)<N:=ae
           by_cases cf:r'.id=500
           ·have et:=ep cf
            have fx:n2+1<N:=by
             obtain⟨r3,hL,_⟩:=adp et;rw[EN.h];exact(az.1 hL).1
            obtain⟨r0,r1,r2,r3,r4,r5,r6,r7⟩:=r';obtain rfl:r1=500:=cf;have x1:Cz wp b (o+n2*8+1) (Iz 500):=D 1 _ ae rfl;obtain⟨hM,fz⟩:=dF et fx;clear hr er ep ba D hb et fx;go_wp2_with fail;go_roundw
            case rel=>exact⟨n2+1,fz.h,by go_num,hM,trivial⟩
            case measure=>have:=fz.h;simp[intOf];omega
           ·obtain⟨hO,fH⟩:=ba cf
            subst hO;have x0:Cz wp b (o+n2*8) (Iz 3):=D 0 _ ae rfl;have x1:Cz wp b (o+n2*8+1) (Iz iv):=D 1 _ ae rfl;have x2:Cz wp b (o+n2*8+2) (Iz 0):=D 2 _ ae rfl;have x3:Cz wp b (o+n2*8+3) (Iz 2):=D 3 _ ae rfl;have x4:Cz wp b (o+n2*8+4) (Iz x):=D 4 _ ae rfl;have x5:Cz wp b (o+n2*8+5) (Iz mn):=D 5 _ ae rfl;have x6:Cz wp b (o+n2*8+6) (Iz (y - mn)):=D 6 _ ae rfl;have x7:Cz wp b (o+n2*8+7) (Iz 0):=D 7 _ ae rfl;have eo:=hI.h;have hP:=ao fH;clear hr er ep ba D hb cf fH;go_wp2_with fail;have ny:=NY.h;have ni:=NI.h;have hU:∀u,(binOp .neq 40 (.agg #[Iz 3,Iz iv,Iz 0,Iz 2,Iz x,Iz mn,Iz (y - mn),Iz 0]) (.agg #[Iz 3,Iz iv,Iz 0,Iz 2,Iz x,Iz mn,Iz (y - mn),Iz 0])).run Tryz.prog u= .ok (.bool false) u:=fun u=>by rw[UQ,WN];rfl
            go_quiet (fail)
            go_wp2_with fail;go_roundw
            case rel=>exact⟨i+1,n2,q - mn,bc.h,cQ,rfl,rfl,fE (by rw[fq.h];omega),hG,ao (by rw[hP.h,hE.h]),ao (below_drewN HB.h _)⟩
            case measure=>have:=bc.h;have:=fq.h;simp[intOf];omega
        ·have e1:(x==xj)=false:=beq_eq_false_iff_ne.2 hx
         have a7:=HD.h;rw[adh ei.h (.inl hx)] at a7;have ej:=ao a7;clear a7 fa hx;go_wp2_with fail;go_roundw
         case rel=>exact⟨i+1,n,q,bc.h,hn,rfl,rfl,by go_num,HQ,ej,HB⟩
         case measure=>have:=bc.h;simp[intOf];omega
       ·obtain rfl:i=k:=ae
        have i0:¬(i:Int)<i:=ae;have cS:(RR.drop (n+1)).filter acT=acP (acW L (j+1)) q:=by rw[HD.h,<-HL.h,adG,List.nil_append]
        have fT:=ao cS;have eg:=W5.h;clear b7 cS;go_wp2_with fail;go_roundw
        case rel=>exact⟨j+1,n,q,e7.h,hn,rfl,rfl,rfl,HQ,fT,HB⟩
        case measure=>have:=e7.h;have:=ht.h;simp[intOf];omega
     ·have i0:¬xj<=25:=ae
      clear bb b6;go_wp2_with fail;refine(Qw wq).mono ?_;rintro e v9⟨rfl,b9⟩;go_wp2_with fail;go_ret;exact⟨rfl,dW (dW e6.h HB.h) b9⟩
end Go.Proofs.YtbaaheidifacaaaGreat
