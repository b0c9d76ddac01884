import Derived.Test.YtbaaheidifacaaaGreatQTopPC1
import Derived.Test.YtbaaheidifacaaaGreatQMkSC1
import Derived.Test.YtbaaheidifacaaaGreatQDiff1
set_option linter.defProp false
set_option linter.unusedVariables false
set_option linter.unusedSimpArgs false
set_option maxRecDepth 100000
set_option maxHeartbeats 12800000
namespace Go.Proofs.YtbaaheidifacaaaGreat
variable {B g:Nat} {C:zt} {Gs R:Nat→Prop} {P:PD} {l:List bN} {q:bN} {w:World}
open Go.RowKit
theorem Mu (l:List bN) (c:bN):lF (l++[c])=lF l++c.row:=by simp[lF]
theorem NT (c:bN):∀u∈c.row,u.oneCell'=true:=fun u hu=>by
 unfold bN.row bN.cells at hu;simp at hu;rcases hu with rfl|rfl|rfl|rfl|rfl|rfl|rfl|rfl|rfl<;>rfl
theorem Tryz.Td:(Tryz.prog.info? 35).map (fun i=>(i.zero,i.size,i.bytes))=some (some (.agg #[Iz 0,Iz 0,Iz 0,Iz 0,Iz 0,Iz 0,Iz 0,Iz 0, .string ⟨#[]⟩]),9,80):=by kernel_rfl
theorem VZ:kA Tryz.prog 26 35 (.agg #[Iz 0,Iz 0,Iz 0,Iz 0,Iz 0,Iz 0,Iz 0,Iz 0, .string ⟨#[]⟩]) 9 80:=
 ⟨Tryz.underlying26,let ⟨i,h,D,I,J⟩:=info_parts Tryz.Td;⟨i,h,D,I,J⟩,rfl,ae,ae⟩
theorem DT (P:PD) (l:List bN) (n:Nat):(js P l n).length=min n l.length:=by unfold js;simp
theorem JZ {k:Nat} (h:l[k]?=some q):js P l (k+1)=js P l k++[rB P q k]:=by
 have D:=(az.1 h).1;unfold js;rw[bC,h,List.zipIdx_append,cx];have:(l.take k).length=k:=by rw[bJ];omega
 rw[this];simp
theorem Mw (h:B<=w.heap.size) (o:Obj):Below B w (w.alloc o):=(aa _ _).alloc h o
theorem Te (P:PD) (ma:Option Addr) (mc:Nat) (sa:Option Addr) (sc:Nat) (A:Option Addr) (n c:Nat) (l:List bN) (N:Nat) (w:World) (hP:iZ w P ma sa) (hn:l.length=n) (hA:Cells w A (lF l)) (hN:N<=1000):
  Wz 21 #[P.val ma mc sa sc, .slice A n c,Iz (N:Int)] w fun e w'=> ∃A' c',e= .returned (.slice A' (js P l N).length c')/\w'.ownsRow w.heap.size 35 9 (.slice A' (js P l N).length c') (js P l N).length (lF (js P l N))/\Bz w w':=by
 subst hn;obtain⟨M,eM⟩:=Zn ((js P l N).length);have hM:M=min N l.length:=by rw[eM,DT]
 obtain⟨R,eR⟩:=Zn (lF (js P l N):List Value);rw[<-eM,<-eR];obtain⟨EM,HM,ER⟩:=fY eM hM eR;clear eM hM eR;rw[PD.jt];obtain⟨w0,ax⟩:=Zn (w.alloc (.cells (P.cells ma mc sa sc) 25));obtain⟨g,eg⟩:=Zn w.heap.size;have a2:fM w0 g P ma mc sa sc:=ax▸eg▸fM.new _ _ _ _ _ _;have B0:=Zw ax;have h0:=hP.below B0;have a5:=hA.below B0;have I:g<w0.heap.size:=a2.lt;obtain⟨HB,H0,a8,a3⟩:=mh a2 h0 a5 B0;clear a2 h0 a5 hP hA B0;unfold PD.cells at ax;unfold PD.cells
 go_enter Tryz.func21,Tryz.ntmps21
 go_upto_region 1 with(fail)
 rw[<-ax,<-eg];have EG:=ao eg;clear ax eg;go_wp2_with fail
 go_loopw [7,8] (fun v i wr=> ∃(k:Nat) (A':Option Addr) (c':Nat),k<=l.length/\k<=N/\i= Iz k/\v= .slice A' k c'/\Hid (wr.ownsRow w0.heap.size 35 9 (.slice A' k c') k (lF (js P l k)))/\Hid (Bz w0 wr)) (fun _ i _=>N - (intOf i).toNat)
 case atStart=>exact⟨0,none,0,aB _,aB _,rfl,rfl,ao (aM _ _ _ _),ao (aa _ _)⟩
 case round=>
  obtain⟨k,A',c',hk,bc,rfl,rfl,HO,O⟩:=hrel;obtain⟨wo,rfl⟩:=Zn wr
  by_cases a4:k<l.length/\k<N
  ·obtain⟨i1,i2⟩:=a4
   obtain⟨b,o,q,rfl,hb,hq,D⟩:=Mv a8 i1;obtain⟨q0,q1,q2,q3,q4,q5,q6,q7,q8⟩:=q;have HQ:=ao hq;have i3:(k:Int)<l.length:=ae;have i4:(k:Int)<N:=ae;have mv:∀(a:Addr) (v:Value),a.block<w0.heap.size->w0.cell? a=some v->∀u,Below w0.heap.size wo.drew u->u.cell? a=some v:=fun a v ha hv u hu=>((hu.cell (p:=a) ha).trans (O.cell (p:=a) ha)).trans hv;have z0:=mv _ _ I (HB.cell 0);have z1:=mv _ _ I (HB.cell 1);have z2:=mv _ _ I (HB.cell 2);have z3:=mv _ _ I (HB.cell 3);have z4:=mv _ _ I (HB.cell 4);have z5:=mv _ _ I (HB.cell 5);have z6:=mv _ _ I (HB.cell 6);have z7:=mv _ _ I (HB.cell 7);have z8:=mv _ _ I (HB.cell 8);have z9:=mv _ _ I (HB.cell 9);have ba:=mv _ _ I (HB.cell 10);have y0:∀u,Below w0.heap.size wo.drew u->Cz u b (o+k*9) (Iz q0):=mv _ _ hb (D 0 _ ae rfl);have y1:∀u,Below w0.heap.size wo.drew u->Cz u b (o+k*9+1) (Iz q1):=mv ⟨b,o+k*9+1,none⟩ _ hb (D 1 _ ae rfl);have y2:∀u,Below w0.heap.size wo.drew u->Cz u b (o+k*9+2) (Iz q2):=mv ⟨b,o+k*9+2,none⟩ _ hb (D 2 _ ae rfl);have y3:∀u,Below w0.heap.size wo.drew u->Cz u b (o+k*9+3) (Iz q3):=mv ⟨b,o+k*9+3,none⟩ _ hb (D 3 _ ae rfl);have y4:∀u,Below w0.heap.size wo.drew u->Cz u b (o+k*9+4) (Iz q4):=mv ⟨b,o+k*9+4,none⟩ _ hb (D 4 _ ae rfl);have y5:∀u,Below w0.heap.size wo.drew u->Cz u b (o+k*9+5) (Iz q5):=mv ⟨b,o+k*9+5,none⟩ _ hb (D 5 _ ae rfl);have y6:∀u,Below w0.heap.size wo.drew u->Cz u b (o+k*9+6) (Iz q6):=mv ⟨b,o+k*9+6,none⟩ _ hb (D 6 _ ae rfl);have y7:∀u,Below w0.heap.size wo.drew u->Cz u b (o+k*9+7) (Iz q7):=mv ⟨b,o+k*9+7,none⟩ _ hb (D 7 _ ae rfl);have y8:∀u,Below w0.heap.size wo.drew u->Cz u b (o+k*9+8) (.string (str q8)):=mv ⟨b,o+k*9+8,none⟩ _ hb (D 8 _ ae rfl);have J:=JZ (P:=P) hq;obtain⟨y,ey⟩:=Zn (rB P ⟨q0,q1,q2,q3,q4,q5,q6,q7,q8⟩ k);rw[<-ey] at J;obtain⟨HS,EY,I1,I2⟩:=mh J ey i1 i2;clear hq D mv J ey i1 i2
   go_upto_region 5 with(fail)
   refine Zb w0.heap.size 99999 [7,8,9] [0,1,2,3,4,5,6,7,8,9,10] ?_;refine Yt ?_;clear z0 z1 z2 z3 z4 z5 z6 z7 z8 z9 ba y0 y1 y2 y3 y4 y5 y6 y7 y8;refine Ym fun K hK=>?_;refine(Pj P ma mc sa sc ⟨q0,q1,q2,q3,q4,q5,q6,q7,q8⟩ k wo.drew ((H0.below O).drew) ae).mono ?_;rintro e w1⟨rfl,b1⟩;rw[<-EY.h];obtain⟨r0,r1,r2,r3,r4,r5,r6,r7,r8⟩:=y;simp only[bN.val,bN.cells];refine Yo hK (b1.mono O.size) ?_;have B1:Bz w0 w1:=dW (aS O) b1;refine Ym fun K hK=>?_;refine Yo hK (Mw B1.size _) ?_;refine Zm fun K hK=>?_;refine fZ VZ ((bP HO.drew b1).alloc _) (news:=bN.row ⟨r0,r1,r2,r3,r4,r5,r6,r7,r8⟩) (m:=1) _ _ rfl rfl rfl rfl (by intro e;cases e) (Cells.lit w1 #[Iz r0,Iz r1,Iz r2,Iz r3,Iz r4,Iz r5,Iz r6,Iz r7, .string (str r8)] 35) (NT _) ae (by simp;have:=B1.size;omega) (k+1) (lF (js P l (k+1))) rfl (by rw[HS.h,Mu]) ?_;intro A4 c4 w4 p4;have B4:=p4.below _ _ (af _) (au B1 (.cells #[Iz r0,Iz r1,Iz r2,Iz r3,Iz r4,Iz r5,Iz r6,Iz r7, .string (str r8)] 35));refine Yo hK (p4.below _ _ (af _) (aa _ _)) ?_;refine Yt ?_;refine aT ?_;obtain⟨a6,bb⟩:=dF p4.own B4;clear p4 B4 B1 b1;go_wp2_with fail;go_roundw
   case rel=>exact⟨k+1,A4,c4,I1,I2,by go_num,rfl,a6,bb⟩
   case measure=>have:=I2.h;simp[intOf];omega
  ·have a7:k=M:=by rw[HM.h];omega
   have ay:lF (js P l k)=R:=by
    rw[ER.h]
    congr 1
    unfold js;have:l.take k=l.take N:=by
     by_cases h1:k=N
     ·rw[h1]
     ·rw[aL ae,aL ae]
    rw[this]
   have own:=HO.h;rw[ay] at own;have a0:=ao (ch own a3.size);clear own ay HO
   by_cases h1:k<l.length
   ·have i3:(k:Int)<l.length:=ae
    have i4:¬(k:Int)<N:=ae;subst a7;clear a4;go_wp2_with fail;go_ret;exact⟨A',c',rfl,a0,dW a3 O⟩
   ·have i3:¬(k:Int)<l.length:=ae
    subst a7;clear a4;go_wp2_with fail;go_ret;exact⟨A',c',rfl,a0,dW a3 O⟩
structure rL (B:Nat) (w:World) (g:Nat) (P:PD) (C:zt) (Gs R:Nat→Prop) (l:List bN) (A:Option Addr) (c:Nat):Prop where
 ZC:jW w Gs R g P (runM P (Mk.new P) l).1 C
 own:w.ownsRow B 40 8 (.slice A (runM P (Mk.new P) l).2.length c) (runM P (Mk.new P) l).2.length (fC (runM P (Mk.new P) l).2)
 ob:∀b,(Value.slice A (runM P (Mk.new P) l).2.length c).ownBlock=some b→¬(b=g∨b=C.ub∨Gs b∨R b)
 lo:∀j,j=g∨j=C.ub∨Gs j∨R j→B≤j
 un:(runM P (Mk.new P) l).1.un≤l.length
 len:(runM P (Mk.new P) l).2.length≤l.length*18036003
 pos:l.length≤(runM P (Mk.new P) l).2.length
 fine:∀n,V0 P (runM P (Mk.new P) (l.take n)).1
theorem FR (P:PD) (m:Mk) (l:List bN) (q:bN):runM P m (l++[q])=((pC P (runM P m l).1 q).1,(runM P m l).2++(pC P (runM P m l).1 q).2):=by
 rw[Ch];simp[runM]
theorem rL.step {w1 w2:World} {Gs':Nat->Prop} {A A':Option Addr} {c c':Nat} (h:rL B w g P C Gs R l A c) (hB:B<=w.heap.size)
  (hlen:(pC P (runM P (Mk.new P) l).1 q).2.length<=18036003) (hm:jW w1 Gs' R g P (pC P (runM P (Mk.new P) l).1 q).1 C) (hl:Lv (fun j=>j=C.ub\/Gs j) w w1) (hn:∀j,Gs' j->Gs j\/qO w w1 j)
  (O:lJ w1 B 40 8 (.slice A (runM P (Mk.new P) l).2.length c) ((runM P (Mk.new P) l).2.length+(pC P (runM P (Mk.new P) l).1 q).2.length) (fC (runM P (Mk.new P) l).2++fC (pC P (runM P (Mk.new P) l).1 q).2) A' c' w2):rL B w2 g P C Gs' R (l++[q]) A' c':=by
 have ay:∀b,(Value.slice A (runM P (Mk.new P) l).2.length c).ownBlock=some b->b<w.heap.size:=fun b I=>(h.own.lt b I).2;have ax:∀b,(Value.slice A (runM P (Mk.new P) l).2.length c).ownBlock=some b->¬(b=g\/b=C.ub\/Gs' b\/R b):=fun b I D=>by
  have J:=h.ob b I;have h2:=ay b I;rcases D with D|D|D|D
  ·exact J (.inl D)
  ·exact J (.inr (.inl D))
  ·rcases hn b D with h3|h3
   ·exact J (.inr (.inr (.inl h3)))
   ·have:=h3.1;omega
  ·exact J (.inr (.inr (.inr D)))
 have a0:Lv (fun k=>(Value.slice A (runM P (Mk.new P) l).2.length c).ownBlock=some k) w1 w2:=Lv.dy O.grown fun k hk=> .inl hk;have hr:=FR P (Mk.new P) l q;have a2:=hm.ZD;have hf:=hm.V2;refine⟨?_,?_,?_,?_,?_,?_,?_,fun n=>?_⟩
 ·rw[hr]
  exact hm.lv a0 fun k hk I=>ax k I hk
 ·rw[hr]
  simp only[aC,rJ];exact O.own
 ·rw[hr]
  simp only[aC];intro b I;rcases O.jV with J|J
  ·rw[J] at I;exact ax b I
  ·rw[J] at I
   injection I with I;intro D;have:=a2 b D;omega
 ·rintro j (D|D|D|D)
  ·exact h.lo j (.inl D)
  ·exact h.lo j (.inr (.inl D))
  ·rcases hn j D with h3|h3
   ·exact h.lo j (.inr (.inr (.inl h3)))
   ·have:=h3.1;omega
  ·exact h.lo j (.inr (.inr (.inr D)))
 ·rw[hr,aC]
  have:=Yh P (runM P (Mk.new P) l).1 q;have:=h.un;simp only[bI,lZ];omega
 ·rw[hr]
  simp only[aC,bI,lZ];have:=h.len;omega
 ·rw[hr]
  simp only[aC,bI,lZ];have:=h.pos;have:=WX P (runM P (Mk.new P) l).1 q;omega
 ·by_cases hn:n<=l.length
  ·rw[lI hn]
   exact h.fine n
  ·rw[aL iW,hr]
   exact hf
theorem rL.new (hm:jW w Gs R g P (Mk.new P) C) (lo:∀j,j=g\/j=C.ub\/Gs j\/R j->B<=j):rL B w g P C Gs R [] none 0:=
 ⟨hm,aM _ _ _ _,fun b D=>(by cases D),lo,aB _,aB _,aB _,fun n=>by rw[List.take_nil];exact hm.V2⟩
def Yi (w:World) (P:PD) (l:List bN) (e:Ending) (w':World):Prop:=∃g A' c' C Gs R,e= .returned (.tuple #[.slice A' (runM P (Mk.new P) l).2.length c', Pz g])∧rL w.heap.size w' g P C Gs R l A' c'∧Bz w w'
theorem J1 (P:PD) (ma:Option Addr) (mc:Nat) (sa:Option Addr) (sc:Nat) (A:Option Addr) (n c:Nat) (l:List bN) (w:World) (hP:iZ w P ma sa) (hn:l.length=n) (hA:Cells w A (lF l)) (hl:l.length<=1000) (hq:∀q∈l,q.aw<=12000/\q.ky.length<=9223372036854775807):
  Wz 23 #[P.val ma mc sa sc, .slice A n c] w (Yi w P l):=by
 subst hn;obtain⟨RR,bp⟩:=Zn (Yi w P l);have cl:=ao bp;rw[<-bp];clear bp;rw[PD.jt];obtain⟨w0,a0⟩:=Zn (w.alloc (.cells (P.cells ma mc sa sc) 25));obtain⟨g0,eg⟩:=Zn w.heap.size;have bH:fM w0 g0 P ma mc sa sc:=by rw[a0,eg];exact fM.new _ _ _ _ _ _
 have B0:=Zw a0;have h0:=hP.below B0;obtain⟨HB,H0,HA,bQ,HQ⟩:=rU bH h0 hA B0 hq;clear bH h0 hP hA B0 hq;unfold PD.cells at a0;unfold PD.cells
 go_enter Tryz.func23,Tryz.ntmps23
 go_upto_region 1 with(fail)
 rw[<-a0,<-eg];clear a0 eg;have k0:Cz w0 g0 0 (.string (str P.code)):=HB.h.cell 0;have k1:Cz w0 g0 1 (.slice ma P.E.length mc):=HB.h.cell 1;have k2:Cz w0 g0 2 (Iz P.tick):=HB.h.cell 2;have k3:Cz w0 g0 3 (Iz P.low):=HB.h.cell 3;have k4:Cz w0 g0 4 (Iz P.high):=HB.h.cell 4;have k5:Cz w0 g0 5 (Iz P.wide):=HB.h.cell 5;have k6:Cz w0 g0 6 (Iz P.rule):=HB.h.cell 6;have k7:Cz w0 g0 7 (Iz P.top):=HB.h.cell 7;have k8:Cz w0 g0 8 (Iz P.least):=HB.h.cell 8;have k9:Cz w0 g0 9 (Iz P.part):=HB.h.cell 9;have cm:Cz w0 g0 10 (.slice sa P.settle.length sc):=HB.h.cell 10;go_wp2_with fail;refine(JK P ma mc sa sc w0 H0.h).mono ?_;clear k0 k1 k2 k3 k4 k5 k6 k7 k8 k9 cm;rintro e w1⟨g,C,bR,R,rfl,a2,b1,l1,l2,l3⟩;have bU:rL w.heap.size w1 g P C bR R [] none 0:=rL.new a2 (by
  have:=bQ.h.size;rintro j (rfl|rfl|hj|hj)
  ·omega
  ·omega
  ·have:=l3 j (.inl hj);omega
  ·have:=l3 j (.inr hj);omega)
 obtain⟨cn,ct⟩:=dF bU (dW bQ.h b1);clear a2 b1 l1 l2 l3 bU;go_wp2_with fail
 go_loopw [8,9] (fun v i wr=> ∃(k:Nat) (A':Option Addr) (c' N:Nat) (Gs:Nat->Prop),k<=l.length/\i= Iz k/\v= .slice A' N c'/\Hid (N=(runM P (Mk.new P) (l.take k)).2.length/\rL w.heap.size wr g P C Gs R (l.take k) A' c')/\Hid (Bz w wr)) (fun _ i _=>l.length - (intOf i).toNat)
 case atStart=>exact⟨0,none,0,0,bR,aB _,rfl,rfl,ao ⟨rfl,cn.h⟩,ct⟩
 case round=>
  obtain⟨k,A',c',N,Gs,hk,rfl,rfl,J,a3⟩:=hrel;obtain⟨wo,rfl⟩:=Zn wr
  by_cases a7:k<l.length
  ·obtain⟨b,o,q,rfl,hb,hq,I⟩:=Mv (HA.h.below a3.h) a7
   have bt:=HQ.h q (aH hq);have bV:l.take (k+1)=l.take k++[q]:=by rw[bC,hq];rfl
   have b0:(runM P (Mk.new P) (l.take k)).1.un<1000000:=by have:=J.h.2.un;rw[bJ] at this;omega
   have bE:=NM g P (runM P (Mk.new P) (l.take k)).1 Gs R C q wo J.h.2.ZC b0 bt.2;obtain⟨res,a4⟩:=Zn (pC P (runM P (Mk.new P) (l.take k)).1 q);rw[<-a4] at bE;have ba:=bt.1;obtain⟨q0,q1,q2,q3,q4,q5,q6,q7,q8⟩:=q;have y0:Cz wo b (o+k*9) (Iz q0):=I 0 _ (by omega) rfl;have y1:Cz wo b (o+k*9+1) (Iz q1):=I 1 _ (by omega) rfl;have y2:Cz wo b (o+k*9+2) (Iz q2):=I 2 _ (by omega) rfl;have y3:Cz wo b (o+k*9+3) (Iz q3):=I 3 _ (by omega) rfl;have y4:Cz wo b (o+k*9+4) (Iz q4):=I 4 _ (by omega) rfl;have y5:Cz wo b (o+k*9+5) (Iz q5):=I 5 _ (by omega) rfl;have y6:Cz wo b (o+k*9+6) (Iz q6):=I 6 _ (by omega) rfl;have y7:Cz wo b (o+k*9+7) (Iz q7):=I 7 _ (by omega) rfl;have y8:Cz wo b (o+k*9+8) (.string (str q8)):=I 8 _ (by omega) rfl;have i3:(k:Int)<l.length:=by omega
   obtain⟨b2,b3,ax,cv,b4⟩:=rU bE bV a4 ba a7;clear bE bV a4 hq I bt b0 a7 ba;go_wp2_with fail;refine b2.h.mono ?_;clear y0 y1 y2 y3 y4 y5 y6 y7 y8 b2;rintro e w2⟨hB,A1,cp,Gs',rfl,bb,a2,a8,bc,b5⟩;obtain⟨D,eD⟩:=Zn res.2.length;rw[<-eD];have b6:D<=18036003:=by
    rw[eD];refine aF hB ?_;have:=cv.h;omega
   have cF:N<=18036003000:=by
    rw[J.h.1];have:=J.h.2.len;rw[bJ] at this;omega
   have bf:∀j,(j=C.ub\/Gs j)->w.heap.size<=j:=fun j hj=>J.h.2.lo j (by rcases hj with h|h;exact .inr (.inl h);exact .inr (.inr (.inl h)));have B2:Bz w w2:=a3.h.trans (a8.below bf a3.h.size);have ay:=J.h.2.own;rw[<-J.h.1] at ay;have bh:w2.ownsRow w.heap.size 40 8 (.slice A' N c') N (fC (runM P (Mk.new P) (l.take k)).2):=aX ay fun j hj=>a8.block j (ay.lt j hj).2 (fun hh=>by
    have h1:=J.h.2.ob j (by rw[<-J.h.1];exact hj);rcases hh with h|h
    ·exact h1 (.inr (.inl h))
    ·exact h1 (.inr (.inr (.inl h))))
   have b7:Cells w2 A1 (fC res.2):=dP.O bb;have b8:(fC res.2).length=D*8:=by rw[iL,eD]
   obtain⟨ED,cH,cQ,b9,cd⟩:=rU eD a2 a8 bc B2;clear eD bb a2 a8 bc b5 hB bf ay
   go_wp2_with (at_builtin
                refine lK yP bh (news:=fC res.2) rfl _ _ rfl rfl rfl b8 b7 (x9 _) (by omega) cd.h.size (N+D) _ rfl rfl ?_;intro A4 c4 w4 p4)
   have B4:=p4.below _ _ (af _) cd.h;have a5:rL w.heap.size w4 g P C Gs' R (l.take (k+1)) A4 c4:=by
    rw[b3.h];refine rL.step J.h.2 a3.h.size ?_ ?_ cQ.h b9.h ?_
    ·rw[<-ax.h,<-ED.h];exact b6
    ·rw[<-ax.h];exact cH.h
    ·rw[<-ax.h,<-ED.h,<-J.h.1];exact p4
   have cf:N+D=(runM P (Mk.new P) (l.take (k+1))).2.length:=by
    rw[b3.h,FR,<-ax.h];simp only[aC];rw[<-J.h.1,<-ED.h]
   obtain⟨cS,cT⟩:=dF (And.intro cf a5) B4;clear cf a5 p4 B4 bh b7 b8 b6 cF;go_wp2_with fail;go_roundw
   case rel=>exact⟨k+1,A4,c4,N+D,Gs',b4.h,by go_num,rfl,cS,cT⟩
   case measure=>have:=b4.h;simp[intOf];omega
  ·have ck:l.take k=l:=aL (by omega)
   have a6:=J.h;rw[ck] at a6;have HF:=ao a6;have i3:¬(k:Int)<l.length:=by omega
   clear ck a6 J a7;go_wp2_with fail;rw[cl.h];exact⟨g,A',c',C,Gs,R,by rw[HF.h.1],HF.h.2,a3.h⟩
theorem Th (A:Option Addr) (c:Nat) (B:Option Addr) (d n:Nat) (l:List ir) (w:World) (hn:l.length=n) (a3:n<=100000000000) (hA:Cells w A (fC l)) (hB:Cells w B (fC l)):
  Wz 24 #[.slice A n c, .slice B n d] w fun e w'=>e= .returned (.bool true)/\Bz w w':=by
 obtain⟨HN,HA,HB⟩:=fY hn hA hB;clear hn hA hB
 go_enter Tryz.func24,Tryz.ntmps24
 go_wp2_with fail
 go_loopw [5] (fun i wr=> ∃k:Nat,k<=n/\i= Iz k/\Hid (Bz w wr)) (fun i _=>n - (intOf i).toNat)
 case atStart=>exact⟨0,aB _,rfl,ao (aa _ _)⟩
 case round=>
  obtain⟨k,hk,rfl,ax⟩:=hrel;obtain⟨J,rfl⟩:=Zn wr
  by_cases O:k<n
  ·obtain⟨b,o,q,rfl,hb,hq,I⟩:=Tg (HA.below ax) (m:=k) (HN.h▸O)
   obtain⟨b2,o2,q2,rfl,a4,ay,D⟩:=Tg (HB.below ax) (m:=k) (HN.h▸O);obtain rfl:q2=q:=by rw[ay] at hq;exact bW hq
   obtain⟨r0,r1,r2,r3,r4,r5,r6,r7⟩:=q2;have y0:Cz J b (o+k*8) (Iz r0):=I 0 _ ae rfl;have y1:Cz J b (o+k*8+1) (Iz r1):=I 1 _ ae rfl;have y2:Cz J b (o+k*8+2) (Iz r2):=I 2 _ ae rfl;have y3:Cz J b (o+k*8+3) (Iz r3):=I 3 _ ae rfl;have y4:Cz J b (o+k*8+4) (Iz r4):=I 4 _ ae rfl;have y5:Cz J b (o+k*8+5) (Iz r5):=I 5 _ ae rfl;have y6:Cz J b (o+k*8+6) (Iz r6):=I 6 _ ae rfl;have y7:Cz J b (o+k*8+7) (Iz r7):=I 7 _ ae rfl;have z0:Cz J b2 (o2+k*8) (Iz r0):=D 0 _ ae rfl;have z1:Cz J b2 (o2+k*8+1) (Iz r1):=D 1 _ ae rfl;have z2:Cz J b2 (o2+k*8+2) (Iz r2):=D 2 _ ae rfl;have z3:Cz J b2 (o2+k*8+3) (Iz r3):=D 3 _ ae rfl;have z4:Cz J b2 (o2+k*8+4) (Iz r4):=D 4 _ ae rfl;have z5:Cz J b2 (o2+k*8+5) (Iz r5):=D 5 _ ae rfl;have z6:Cz J b2 (o2+k*8+6) (Iz r6):=D 6 _ ae rfl;have z7:Cz J b2 (o2+k*8+7) (Iz r7):=D 7 _ ae rfl;have a2:∀u,(binOp .neq 40 (.agg #[Iz r0,Iz r1,Iz r2,Iz r3,Iz r4,Iz r5,Iz r6,Iz r7]) (.agg #[Iz r0,Iz r1,Iz r2,Iz r3,Iz r4,Iz r5,Iz r6,Iz r7])).run Tryz.prog u= .ok (.bool false) u:=fun u=>by rw[UQ,WN];rfl
   have i3:(k:Int)<n:=ae;have a0:=ao O;clear hq ay I D O;go_wp2_with fail
   go_quiet (fail)
   go_wp2_with fail;go_roundw
   case rel=>exact⟨k+1,a0,by go_num,ao (below_drewN ax _)⟩
   case measure=>have:=a0.h;simp[intOf];omega
  ·have i3:¬(k:Int)<n:=ae
   clear O;go_wp2_with fail;go_ret;exact⟨rfl,ax⟩
abbrev MkL (B:Nat):=cC (fun j=>j<B)
end Go.Proofs.YtbaaheidifacaaaGreat
