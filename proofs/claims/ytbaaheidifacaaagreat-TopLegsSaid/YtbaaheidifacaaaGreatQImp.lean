import Derived.Test.YtbaaheidifacaaaGreatQBook10
import Derived.Test.YtbaaheidifacaaaGreatQRefB
set_option linter.defProp false
set_option linter.unusedVariables false
set_option linter.unusedSimpArgs false
set_option maxRecDepth 100000
set_option maxHeartbeats 12800000
namespace Go.Proofs.YtbaaheidifacaaaGreat
variable {A A' Aq ma sa:Option Addr} {B cq g m n:Nat} {cs:Array Value} {l qs:List Qt} {q:Qt} {w:World}
open Go.RowKit
theorem Tryz.Sh:(Tryz.prog.info? 171).map (fun i=>(i.zero,i.size,i.bytes))=some (some (.agg #[.bool false, .bool false,Iz 0,Iz 0,Iz 0,Iz 0]),6,40):=by kernel_rfl
theorem Sj:kA Tryz.prog 118 171 (.agg #[.bool false, .bool false,Iz 0,Iz 0,Iz 0,Iz 0]) 6 40:=
 ⟨Tryz.underlying118,let ⟨i,h,D,I,J⟩:=info_parts Tryz.Sh;⟨i,h,D,I,J⟩,rfl,ae,ae⟩
theorem Tryz.WB:(Tryz.prog.info? 178).map (fun i=>(i.zero,i.size,i.bytes))=some (some (.agg #[Iz 0,Iz 0,Iz 0,Iz 0,Iz 0,Iz 0]),6,48):=by kernel_rfl
theorem WC:kA Tryz.prog 124 178 (.agg #[Iz 0,Iz 0,Iz 0,Iz 0,Iz 0,Iz 0]) 6 48:=
 ⟨Tryz.underlying124,let ⟨i,h,D,I,J⟩:=info_parts Tryz.WB;⟨i,h,D,I,J⟩,rfl,ae,ae⟩
def wS (tp:kJ) (x k:Nat):Int:=((tp x k).map (·.1)).getD 0
def wU (tp:kJ) (x k:Nat):Int:=((tp x k).map (·.2)).getD 0
def qQ (tp:kJ) (x:Nat):List Value:=[.bool (tp x 0).isSome, .bool (tp x 1).isSome,Iz (wS tp x 0),Iz (wS tp x 1),Iz (wU tp x 0),Iz (wU tp x 1)]
theorem uC (tp:kJ) (x:Nat):(qQ tp x).length=6:=rfl
def lC (n:Nat) (tp:kJ):List Value:=(List.range n).flatMap (qQ tp)
theorem ph (n:Nat) (tp:kJ):(lC n tp).length=n*6:=by
 have:=dX (uC tp) (List.range n);rw[List.length_range] at this;exact this
def Qt.cells (q:Qt):List Value:=[Iz q.ag,Iz q.aw,Iz (q.i0:Int),Iz ((q.k0:Int)+1),Iz (q.i1:Int),Iz ((q.k1:Int)+1)]
theorem Qt.bG (q:Qt):q.cells.length=6:=rfl
def uD (l:List Qt):List Value:=l.flatMap Qt.cells
theorem Jr (l:List Qt):(uD l).length=l.length*6:=dX Qt.bG l
theorem Fh (l:List Qt) (q:Qt):uD (l++[q])=uD l++q.cells:=by simp[uD]
theorem mJ {k:Nat}:∀{us:List Value} {w:World} {g i:Nat},k≠g->(fW w g i us).heap[k]?=w.heap[k]?
 |[],w,g,i,h=>rfl
 |u::us,w,g,i,h=>by
  rw[fW,mJ (us:=us) h];exact av _ _ _ _ h
theorem NH {tp:kJ} (h:Cells w A (lC n tp)) {x:Nat} (hx:x<n):
  ∃b o,A=some ⟨b,o,none⟩/\b<w.heap.size/\w.cell? ⟨b,o+x*6,none⟩=some (.bool (tp x 0).isSome)/\w.cell? ⟨b,o+x*6+1,none⟩=some (.bool (tp x 1).isSome)/\w.cell? ⟨b,o+x*6+2,none⟩=some (Iz (wS tp x 0))/\w.cell? ⟨b,o+x*6+3,none⟩=some (Iz (wS tp x 1))/\w.cell? ⟨b,o+x*6+4,none⟩=some (Iz (wU tp x 0))/\w.cell? ⟨b,o+x*6+5,none⟩=some (Iz (wU tp x 1)):=by
 have I:=ph n tp;have D:lC n tp≠[]:=by intro e;rw[e] at I;simp at I;omega
 obtain⟨b,o,rfl,J,hc⟩:=h D;have hr:(List.range n)[x]?=some x:=rS hx;have key:∀(j:Nat) (v:Value),j<6->(qQ tp x)[j]?=some v->Cz w b (o+x*6+j) v:=fun j v O hv=>by
  rw[bg];exact hc _ _ ((ig (uC tp) j O hr).trans hv)
 exact⟨b,o,rfl,J,key 0 _ ae rfl,key 1 _ ae rfl,key 2 _ ae rfl,key 3 _ ae rfl,key 4 _ ae rfl,key 5 _ ae rfl⟩
structure rG (B:Nat) (w:World) (g:Nat) (A:Option Addr) (n c:Nat) (Aq:Option Addr) (cq:Nat) (qs:List Qt):Prop where
 D:aE w g 233 #[.slice A n c, .slice Aq qs.length cq]
 own:w.ownsRow B 178 6 (.slice Aq qs.length cq) qs.length (uD qs)
 lo:B≤g
theorem rG.below {w':World} {c:Nat} (h:rG B w g A n c Aq cq qs) (I:Bz w w'):rG B w' g A n c Aq cq qs:=
 ⟨h.D.below I,bP h.own I,h.lo⟩
theorem Js {w0 wf O:World} {c:Nat} {c':Nat} (h:rG B wf g A n c Aq cq qs) (q:Qt)
  (ap:lJ wf B 178 6 (.slice Aq qs.length cq) (qs.length+1) (uD qs++q.cells) A' c' O) (hb:Below B w0 wf) (hB:B<=wf.heap.size) (ax:Bz w0 wf):
  rG B (O.setCell ⟨g,1,none⟩ (.slice A' (qs.length+1) c')) g A n c A' c' (qs++[q])/\Below B w0 (O.setCell ⟨g,1,none⟩ (.slice A' (qs.length+1) c'))/\Lv (fun j=>j=g\/(Value.slice Aq qs.length cq).ownBlock=some j) w0 (O.setCell ⟨g,1,none⟩ (.slice A' (qs.length+1) c')):=by
 have hg:=h.D.lt;have I:some g≠(Value.slice Aq qs.length cq).ownBlock:=fun e=>by
  obtain⟨cur,hc⟩:=bY h.own e.symm;exact jY h.D hc (by decide) rfl
 have b7:=h.D.block (ap.grown.block g hg I);have hlen:(qs++[q]).length=qs.length+1:=bT;refine⟨⟨?_,?_,h.lo⟩,(ap.below B w0 (af _) hb).setCell h.lo _,((Lv.bL ax).then (Lv.dy ap.grown fun k J=> .inl (.inr J))).setCell (p:=⟨g,1,none⟩) (.inl rfl) _⟩
 ·rw[hlen]
  exact b7.set 1 _
 ·rw[hlen,Fh]
  refine aX ap.own fun k J=>av _ _ _ _ ?_;rintro e;subst e;rcases ap.jV with hl|hl
  ·rw[hl] at J;exact I J.symm
  ·have h0:(Value.slice A' (qs.length+1) c').ownBlock=some k:=J
   rw[hl] at h0;injection h0 with h0;omega
theorem Cv (B g:Nat) (A:Option Addr) (n c:Nat) (Aq:Option Addr) (cq:Nat) (qs:List Qt) (tp:kJ) (a ka b kb:Nat) (sa sb:Int) (less:Bool) (w:World) (h:rG B w g A n c Aq cq qs) (hT:Cells w A (lC n tp)) (ha:a<n) (hb:b<n) (hP:ka<2) (hQ:kb<2) (hn:n<=100)
  (f7:sa=(ka:Int)+1) (gi:sb=(kb:Int)+1) (hp:∀x k p q,tp x k=some (p,q)->(-2000000<=p/\p<=2000000)/\0<=q/\q<=1000000000) (hq:qs.length<=1000):
  Wz 138 #[Pz g, .agg #[Iz (a:Int),Iz sa], .agg #[Iz (b:Int),Iz sb], .bool less] w fun e w'=>e= .returned (.tuple #[])/\∃hh hj,rG B w' g A n c hh hj (qs++(xe tp a ka b kb less).toList)/\Below B w w'/\Lv (fun j=>j=g\/(Value.slice Aq qs.length cq).ownBlock=some j) w w':=by
 obtain⟨bt,ot,rfl,a2,gj,gq,gv,gx,gy,gA⟩:=NH hT ha;obtain⟨hU,hV,eA,hO,gG,gI,gO,gP,gR,gT⟩:=NH hT hb;injection eA with eA;injection eA with e1 e2;subst e1;subst e2;have hl:g<w.heap.size:=h.D.lt;obtain⟨wA,dT⟩:=Zn ((w.alloc (.cells #[Iz (a:Int),Iz sa] 175)).alloc (.cells #[Iz (b:Int),Iz sb] 175));obtain⟨g5,eF⟩:=Zn w.heap.size;obtain⟨g6,eG⟩:=Zn (w.heap.size+1);have D6:aE wA g6 175 #[Iz (b:Int),Iz sb]:=by
  have:=aE.new (w.alloc (.cells #[Iz (a:Int),Iz sa] 175)) #[Iz (b:Int),Iz sb] 175;rw[dT,eG];simpa using this
 have D5:aE wA g5 175 #[Iz (a:Int),Iz sa]:=dT▸eF▸(aE.new w #[Iz (a:Int),Iz sa] 175).block (du _ _ _ bT);have BA:Bz w wA:=dT▸au (au (aa _ _) _) _;have HA:=h.below BA;obtain⟨S0,d4⟩:=Zn wA.heap.size;have st:∀{u:World} {k i:Nat} {v:Value},Below S0 wA.drew u->k<w.heap.size->Cz w k i v->Cz u k i v:=fun {u k i v} hu hk hv=>
  Yb hu (d4▸aA hk BA.size) (Yb BA hk hv)
 have m0:∀u,Below S0 wA.drew u->Cz u g 0 (.slice (some ⟨bt,ot,none⟩) n c):=fun u hu=>st hu hl (h.D.cell 0);have x5:∀u,Below S0 wA.drew u->Cz u g5 0 (Iz (a:Int)):=fun u hu=>Yb hu (d4▸D5.lt) (D5.cell 0);have x6:∀u,Below S0 wA.drew u->Cz u g6 0 (Iz (b:Int)):=fun u hu=>Yb hu (d4▸D6.lt) (D6.cell 0);have eU:=fun u (hu:Below S0 wA.drew u)=>st hu a2 gj;have eV:=fun u (hu:Below S0 wA.drew u)=>st hu a2 gq;have eW:=fun u (hu:Below S0 wA.drew u)=>st hu a2 gv;have eY:=fun u (hu:Below S0 wA.drew u)=>st hu a2 gx;have eZ:=fun u (hu:Below S0 wA.drew u)=>st hu a2 gy;have e6:=fun u (hu:Below S0 wA.drew u)=>st hu a2 gA;have e7:=fun u (hu:Below S0 wA.drew u)=>st hu a2 gG;have e9:=fun u (hu:Below S0 wA.drew u)=>st hu a2 gI;have fa:=fun u (hu:Below S0 wA.drew u)=>st hu a2 gO;have ff:=fun u (hu:Below S0 wA.drew u)=>st hu a2 gP;have fi:=fun u (hu:Below S0 wA.drew u)=>st hu a2 gR;have fk:=fun u (hu:Below S0 wA.drew u)=>st hu a2 gT;have i1:(a:Int)<n:=ae;have i2:(b:Int)<n:=ae;have eT:Hid (∀k,(Value.slice Aq qs.length cq).ownBlock=some k->k<w.heap.size):=ao fun k hk=>(h.own.lt k hk).2;obtain⟨ht,hy,hz,fq,HP,eI,eJ⟩:=yY HA D5 D6 BA hp f7 gi;clear gj gq gv gx gy gA gG gI gO gP gR gT HA D5 D6 BA hp hT h st f7 gi;have a0:=ao d4;clear d4
 go_enter Tryz.func138,Tryz.ntmps138
 go_upto_region 1 with(fail)
 rw[<-dT,<-eG,<-eF];obtain⟨hB,hC⟩:=dF eF eG;clear dT eF eG;obtain⟨bc,d5⟩:=Zn ((tp a 0).isSome);obtain⟨bf,d6⟩:=Zn ((tp a 1).isSome);obtain⟨bh,d7⟩:=Zn (wS tp a 0);obtain⟨bp,d8⟩:=Zn (wS tp a 1);obtain⟨bE,d9⟩:=Zn (wU tp a 0);obtain⟨bH,ea⟩:=Zn (wU tp a 1);obtain⟨bQ,eb⟩:=Zn ((tp b 0).isSome);obtain⟨bR,ed⟩:=Zn ((tp b 1).isSome);obtain⟨bU,ef⟩:=Zn (wS tp b 0);obtain⟨bV,eg⟩:=Zn (wS tp b 1);obtain⟨b0,ei⟩:=Zn (wU tp b 0);obtain⟨b9,ej⟩:=Zn (wU tp b 1);rw[<-d5] at eU;rw[<-d6] at eV;rw[<-d7] at eW;rw[<-d8] at eY;rw[<-d9] at eZ;rw[<-ea] at e6;rw[<-eb] at e7;rw[<-ed] at e9;rw[<-ef] at fa;rw[<-eg] at ff;rw[<-ei] at fi;rw[<-ej] at fk;have E:Hid ((bc=(tp a 0).isSome/\bf=(tp a 1).isSome/\bh=wS tp a 0/\bp=wS tp a 1/\bE=wU tp a 0/\bH=wU tp a 1)/\(bQ=(tp b 0).isSome/\bR=(tp b 1).isSome/\bU=wS tp b 0/\bV=wS tp b 1/\b0=wU tp b 0/\b9=wU tp b 1)):=ao ⟨⟨d5,d6,d7,d8,d9,ea⟩,eb,ed,ef,eg,ei,ej⟩;clear d5 d6 d7 d8 d9 ea eb ed ef eg ei ej
 go_cut [8,9] (fun v v' wx=> ∃O g9,v= Pz O/\v'= Pz g9/\Hid (aE wx O 171 #[.bool bc, .bool bf,Iz bh,Iz bp,Iz bE,Iz bH]/\aE wx g9 171 #[.bool bQ, .bool bR,Iz bU,Iz bV,Iz b0,Iz b9]/\Below S0 wA wx/\S0<=O/\S0<=g9))
 case first=>
  refine Zy S0 20 ?_;refine Zr [0,1,2,3,4,5,6,7,8,9,10,11,12,13,14,15] 4 ?_;refine Yr ?_;clear m0 x5 x6 eU eV eW eY eZ e6 e7 e9 fa ff fi fk;refine Zf [16,17] 3 ?_;refine Zo (fun K hK=>?_) ?_
  ·go_simp
   refine Yo hK ((a0.h▸fo wA _)) ?_;obtain⟨wB,cd⟩:=Zn ((wA.alloc (.cells #[.bool false, .bool false,Iz 0,Iz 0,Iz 0,Iz 0] 171)).drew);obtain⟨O,ct⟩:=Zn wA.heap.size;have D8:aE wB O 171 #[.bool false, .bool false,Iz 0,Iz 0,Iz 0,Iz 0]:=cd▸ct▸(aE.new wA _ _).drew;have B0:Below S0 wA wB:=cd▸a0.h▸aS (au (aa _ _) _);rw[<-cd,<-ct];have ck:S0<=O:=cA a0.h;have cl:S0<=wB.heap.size:=jE B0.size a0.h;clear cd ct;obtain⟨ek,fx⟩:=dF D8 B0;clear D8 B0;refine Zf [17] 2 ?_;refine Zo (fun K hK=>?_) ?_
   ·go_simp
    refine Yo hK (iV (aa _ _) cl _) ?_;obtain⟨wC,cf⟩:=Zn (wB.alloc (.cells #[.bool false, .bool false,Iz 0,Iz 0,Iz 0,Iz 0] 171));obtain⟨g9,cv⟩:=Zn wB.heap.size;have D9:=Zq cf cv;have BC:=Zw cf;have D8:=ek.h.below BC;have cF:O≠g9:=cA ek.h.lt;rw[<-cf,<-cv];have a5:S0<=g9:=cA a0.h;clear cf cv;have z0:=D8.cell 0;have z1:=D8.cell 1;have z2:=D8.cell 2;have z3:=D8.cell 3;have z4:=D8.cell 4;have z5:=D8.cell 5;have y0:=D8.frozen 0;have y1:=D8.frozen 1;have y2:=D8.frozen 2;have y3:=D8.frozen 3;have y4:=D8.frozen 4;have y5:=D8.frozen 5;have hw:=bO (us:=[.bool bc, .bool bf,Iz bh,Iz bp,Iz bE,Iz bH]) D8 rfl;have ho:=D9.block (mJ (us:=[.bool bc, .bool bf,Iz bh,Iz bp,Iz bE,Iz bH]) (i:=0) (Ne.symm cF));have hb:=bA (us:=[.bool bc, .bool bf,Iz bh,Iz bp,Iz bE,Iz bH]) (i:=0) ck (aa S0 wC);simp only[fW] at hw hb ho;obtain⟨HW,HB,HO,fz,fH⟩:=rU hw hb ho BC cF;clear D8 D9 hw hb ho BC cF;refine Zf [18] 1 ?_;refine Zo (fun K hK=>?_) ?_
    ·go_simp
     refine Yo hK (HB) ?_;obtain⟨wD,cH⟩:=Zn ((((((wC.setCell ⟨O,0,none⟩ (.bool bc)).setCell ⟨O,0+1,none⟩ (.bool bf)).setCell ⟨O,0+1+1,none⟩ (Iz bh)).setCell ⟨O,0+1+1+1,none⟩ (Iz bp)).setCell ⟨O,0+1+1+1+1,none⟩ (Iz bE)).setCell ⟨O,0+1+1+1+1+1,none⟩ (Iz bH));have W8:=HW.h;have W9:=HO.h;have BD:=HB.h;rw[<-cH] at W8 W9 BD;rw[<-cH];clear cH z0 z1 z2 z3 z4 z5 y0 y1 y2 y3 y4 y5 HW HO HB;have z0:=W9.cell 0;have z1:=W9.cell 1;have z2:=W9.cell 2;have z3:=W9.cell 3;have z4:=W9.cell 4;have z5:=W9.cell 5;have y0:=W9.frozen 0;have y1:=W9.frozen 1;have y2:=W9.frozen 2;have y3:=W9.frozen 3;have y4:=W9.frozen 4;have y5:=W9.frozen 5;have hw:=bO (us:=[.bool bQ, .bool bR,Iz bU,Iz bV,Iz b0,Iz b9]) W9 rfl;have ho:=W8.block (mJ (us:=[.bool bQ, .bool bR,Iz bU,Iz bV,Iz b0,Iz b9]) (i:=0) (fH));have cQ:=bA (us:=[.bool bQ, .bool bR,Iz bU,Iz bV,Iz b0,Iz b9]) (i:=0) a5 (aa S0 wD);have hb:=bA (us:=[.bool bQ, .bool bR,Iz bU,Iz bV,Iz b0,Iz b9]) (i:=0) a5 ((fx.trans (fz.mono cl)).trans BD);simp only[fW] at hw hb ho cQ;obtain⟨HW,HB,HO,fT⟩:=mh hw hb ho cQ;clear W8 W9 hw hb ho cQ BD;refine Zf [19] 0 ?_;refine Zo (fun K hK=>?_) ?_
     ·go_simp
      refine Yo hK (fT) ?_;refine Ze ?_;go_wp2_with fail;go_meet;exact⟨O,g9,rfl,rfl,ao ⟨HO,HW,HB,ck,a5⟩⟩
     exact aQ
    exact aQ
   exact aQ
  refine Zo (fun K hK=>?_) ?_
  ·go_simp
   refine Yo hK ((a0.h▸fo wA _)) ?_;obtain⟨wB,cd⟩:=Zn ((wA.alloc (.cells #[.bool false, .bool false,Iz 0,Iz 0,Iz 0,Iz 0] 171)).drew);obtain⟨g9,cv⟩:=Zn wA.heap.size;have D9:aE wB g9 171 #[.bool false, .bool false,Iz 0,Iz 0,Iz 0,Iz 0]:=cd▸cv▸(aE.new wA _ _).drew;have B0:Below S0 wA wB:=cd▸a0.h▸aS (au (aa _ _) _);rw[<-cd,<-cv];have a5:S0<=g9:=cA a0.h;have cl:S0<=wB.heap.size:=jE B0.size a0.h;clear cd cv;obtain⟨ek,fx⟩:=dF D9 B0;clear D9 B0;refine Zf [16] 2 ?_;refine Zo (fun K hK=>?_) ?_
   ·go_simp
    refine Yo hK (iV (aa _ _) cl _) ?_;obtain⟨wC,cf⟩:=Zn (wB.alloc (.cells #[.bool false, .bool false,Iz 0,Iz 0,Iz 0,Iz 0] 171));obtain⟨O,ct⟩:=Zn wB.heap.size;have D8:=Zq cf ct;have BC:=Zw cf;have D9:=ek.h.below BC;have cF:g9≠O:=cA ek.h.lt;rw[<-cf,<-ct];have ck:S0<=O:=cA a0.h;clear cf ct;have z0:=D8.cell 0;have z1:=D8.cell 1;have z2:=D8.cell 2;have z3:=D8.cell 3;have z4:=D8.cell 4;have z5:=D8.cell 5;have y0:=D8.frozen 0;have y1:=D8.frozen 1;have y2:=D8.frozen 2;have y3:=D8.frozen 3;have y4:=D8.frozen 4;have y5:=D8.frozen 5;have hw:=bO (us:=[.bool bc, .bool bf,Iz bh,Iz bp,Iz bE,Iz bH]) D8 rfl;have ho:=D9.block (mJ (us:=[.bool bc, .bool bf,Iz bh,Iz bp,Iz bE,Iz bH]) (i:=0) cF);have hb:=bA (us:=[.bool bc, .bool bf,Iz bh,Iz bp,Iz bE,Iz bH]) (i:=0) ck (aa S0 wC);simp only[fW] at hw hb ho;obtain⟨HW,HB,HO,fz,fH⟩:=rU hw hb ho BC cF;clear D8 D9 hw hb ho BC cF;refine Zf [18] 1 ?_;refine Zo (fun K hK=>?_) ?_
    ·go_simp
     refine Yo hK (HB) ?_;obtain⟨wD,cH⟩:=Zn ((((((wC.setCell ⟨O,0,none⟩ (.bool bc)).setCell ⟨O,0+1,none⟩ (.bool bf)).setCell ⟨O,0+1+1,none⟩ (Iz bh)).setCell ⟨O,0+1+1+1,none⟩ (Iz bp)).setCell ⟨O,0+1+1+1+1,none⟩ (Iz bE)).setCell ⟨O,0+1+1+1+1+1,none⟩ (Iz bH));have W8:=HW.h;have W9:=HO.h;have BD:=HB.h;rw[<-cH] at W8 W9 BD;rw[<-cH];clear cH z0 z1 z2 z3 z4 z5 y0 y1 y2 y3 y4 y5 HW HO HB;have z0:=W9.cell 0;have z1:=W9.cell 1;have z2:=W9.cell 2;have z3:=W9.cell 3;have z4:=W9.cell 4;have z5:=W9.cell 5;have y0:=W9.frozen 0;have y1:=W9.frozen 1;have y2:=W9.frozen 2;have y3:=W9.frozen 3;have y4:=W9.frozen 4;have y5:=W9.frozen 5;have hw:=bO (us:=[.bool bQ, .bool bR,Iz bU,Iz bV,Iz b0,Iz b9]) W9 rfl;have ho:=W8.block (mJ (us:=[.bool bQ, .bool bR,Iz bU,Iz bV,Iz b0,Iz b9]) (i:=0) ((Ne.symm fH)));have cQ:=bA (us:=[.bool bQ, .bool bR,Iz bU,Iz bV,Iz b0,Iz b9]) (i:=0) a5 (aa S0 wD);have hb:=bA (us:=[.bool bQ, .bool bR,Iz bU,Iz bV,Iz b0,Iz b9]) (i:=0) a5 ((fx.trans (fz.mono cl)).trans BD);simp only[fW] at hw hb ho cQ;obtain⟨HW,HB,HO,fT⟩:=mh hw hb ho cQ;clear W8 W9 hw hb ho cQ BD;refine Zf [19] 0 ?_;refine Zo (fun K hK=>?_) ?_
     ·go_simp
      refine Yo hK (fT) ?_;refine Ze ?_;go_wp2_with fail;go_meet;exact⟨O,g9,rfl,rfl,ao ⟨HO,HW,HB,ck,a5⟩⟩
     exact aQ
    exact aQ
   exact aQ
  exact aQ
 obtain⟨O,g9,rfl,rfl,HC⟩:=hcut;clear m0 x5 x6 eU eV eW eY eZ e6 e7 e9 fa ff fi fk;obtain⟨C8,C9,CB,hD,hE⟩:=HC.h;have G8:w.heap.size<=O:=jE a0.h fq.h.size;have G9:w.heap.size<=g9:=jE a0.h fq.h.size;have G5:w.heap.size<=g5:=cA hB.h;have G6:w.heap.size<=g6:=cA hC.h;clear hD hE;rw[a0.h] at CB;have Bc:Bz w wc:=dW fq CB;have eK:=hy.h.below CB;have eL:=hz.h.below CB;have Mc:=ht.h.below CB;have y5:Cz wc g5 1 (Iz sa):=eK.cell 1;have y6:Cz wc g6 1 (Iz sb):=eL.cell 1;have z5:Cz wc g5 0 (Iz (a:Int)):=eK.cell 0;have z6:Cz wc g6 0 (Iz (b:Int)):=eL.cell 0;have f8:Cz wc O ka (.bool (tp a ka).isSome)/\Cz wc O (2+ka) (Iz (wS tp a ka))/\Cz wc O (4+ka) (Iz (wU tp a ka)):=by
  obtain⟨⟨e0,e1,e2,e3,e4,e5⟩,_⟩:=E.h;subst e0 e1 e2 e3 e4 e5;obtain rfl|rfl:ka=0\/ka=1:=ae
  ·exact⟨C8.cell 0,C8.cell 2,C8.cell 4⟩
  ·exact⟨C8.cell 1,C8.cell 3,C8.cell 5⟩
 have f9:Cz wc g9 kb (.bool (tp b kb).isSome)/\Cz wc g9 (2+kb) (Iz (wS tp b kb))/\Cz wc g9 (4+kb) (Iz (wU tp b kb)):=by
  obtain⟨_,e0,e1,e2,e3,e4,e5⟩:=E.h;subst e0 e1 e2 e3 e4 e5;obtain rfl|rfl:kb=0\/kb=1:=ae
  ·exact⟨C9.cell 0,C9.cell 2,C9.cell 4⟩
  ·exact⟨C9.cell 1,C9.cell 3,C9.cell 5⟩
 obtain⟨el,cm,cS⟩:=f8;obtain⟨eo,cn,cT⟩:=f9;have sA:sa - 1=(ka:Int):=by rw[eI.h];omega
 have sB:sb - 1=(kb:Int):=by rw[eJ.h];omega
 have g3:1<=sa/\sa<=2:=by rw[eI.h];omega
 have g4:1<=sb/\sb<=2:=by rw[eJ.h];omega
 obtain⟨g3,hW⟩:=g3;obtain⟨g4,hX⟩:=g4;have k1:(ka:Int)<2:=ae;have k2:(kb:Int)<2:=ae;have l8:=C8.lt;have l9:=C9.lt;have l5:=eK.lt;have l6:=eL.lt;obtain⟨HM,dS⟩:=dF Mc Bc;clear C8 C9 CB eK eL Mc Bc E HC;obtain⟨va,ep⟩:=Zn ((tp a ka).isSome);obtain⟨vb,er⟩:=Zn ((tp b kb).isSome);obtain⟨pa,eM⟩:=Zn (wS tp a ka);obtain⟨pb,eN⟩:=Zn (wS tp b kb);obtain⟨qa,eO⟩:=Zn (wU tp a ka);obtain⟨qb,eP⟩:=Zn (wU tp b kb);rw[<-ep] at el;rw[<-er] at eo;rw[<-eM] at cm;rw[<-eN] at cn;rw[<-eO] at cS;rw[<-eP] at cT;have eQ:B<=w.heap.size:=cA HM.h.lo
 by_cases f0:va=true/\vb=true
 ·obtain⟨rfl,rfl⟩:=f0
  obtain⟨⟨p1,q1⟩,h1⟩:∃x,tp a ka=some x:=nU.1 ep.symm;obtain⟨⟨p2,q2⟩,h2⟩:∃x,tp b kb=some x:=nU.1 er.symm;have e1:pa=p1:=by rw[eM];unfold wS;rw[h1];rfl
  have e2:pb=p2:=by rw[eN];unfold wS;rw[h2];rfl
  have e3:qa=q1:=by rw[eO];unfold wU;rw[h1];rfl
  have e4:qb=q2:=by rw[eP];unfold wU;rw[h2];rfl
  clear ep er eM eN eO eP;subst e1 e2 e3 e4;obtain⟨⟨b1,b2⟩,b3,b4⟩:=HP.h _ _ _ _ h1;obtain⟨⟨b5,b6⟩,b7,b8⟩:=HP.h _ _ _ _ h2;have et:xe tp a ka b kb less=some ⟨if less=true then pb - pa else pa+pb,min qa qb,a,ka,b,kb⟩:=by unfold xe;rw[h1,h2]
  have eu:=ao et;clear h1 h2 et;go_wp2_with fail
  go_quiet (fail)
  obtain⟨wd,ew⟩:=Zn (wc.drewN nq);rw[<-ew];have BD:Bz wc wd:=ew▸below_drewN (aa _ _) _;have MD:=HM.h.below BD;have F:∀{k i:Nat} {v:Value},Cz wc k i v->Cz wd k i v:=fun {k i v} h=>ew▸h;have el:=F el;have cm:=F cm;have cS:=F cS;have eo:=F eo;have cn:=F cn;have cT:=F cT;have z5:=F z5;have z6:=F z6;have y5:=F y5;have y6:=F y6;have g7:wd.heap.size=wc.heap.size:=by rw[ew];rfl
  rw[<-g7] at l8 l9 l5 l6;obtain⟨ey,eR⟩:=dF MD (dW dS BD);clear F BD MD ew g7 HM dS;have cp:=rG.D ey;have eS:Cz wd g 1 (.slice Aq qs.length cq):=cp.cell 1;have lg:=cp.lt;clear cp
  cases less
  ·have e:told (pa+pb)= .returned (.tuple #[Iz (pa+pb), .bool true]):=(pG rfl ae).symm
   have HE:=ao e;clear e;have d2:∀u,aR wd.drew u->Cz u O (2+ka) (Iz pa):=fun u hu=>Yb hu l8 cm;have d3:∀u,aR wd.drew u->Cz u g9 (2+kb) (Iz pb):=fun u hu=>Yb hu l9 cn;go_wp2_with fail;clear cm cn;refine Zg [8] [0,1,2,3,4,5,6,7,8,9,10,11,12,13] ?_;refine Yt ?_;refine Ym fun K hK=>?_;refine(Nc pa pb _ ae ae).mono ?_;rintro e u⟨rfl,rfl⟩;rw[HE.h];refine Yo hK (aa _ _) ?_;refine Yt ?_;refine aT ?_;clear d2 d3;go_wp2_with fail;obtain⟨I,a6⟩:=Zn wd.drew;rw[<-a6];have BE:Bz wd I:=a6▸aS (aa _ _);have F:∀{k i:Nat} {v:Value},Cz wd k i v->Cz I k i v:=fun {k i v} h=>a6▸h;have a7:I.heap.size=wd.heap.size:=by rw[a6];rfl
   have ME:=ey.h.below BE;have ax:∀k,w.heap.size<=k->some k≠(Value.slice Aq qs.length cq).ownBlock:=fun k hk e=>cA (eT k e.symm);have cX:some g≠(Value.slice Aq qs.length cq).ownBlock:=fun e=>by
    obtain⟨cur,hc⟩:=bY ME.own e.symm;exact jY ME.D hc (by decide) rfl
   obtain⟨Fs,ay⟩:=Zn (fun k=>k<I.heap.size/\some k≠(Value.slice Aq qs.length cq).ownBlock:Nat->Prop);have mg:Fs g:=ay▸⟨ME.D.lt,cX⟩;have m8:Fs O:=ay▸⟨a7▸l8,ax _ G8⟩;have m9:Fs g9:=ay▸⟨a7▸l9,ax _ G9⟩;have m5:Fs g5:=ay▸⟨a7▸l5,ax _ G5⟩;have m6:Fs g6:=ay▸⟨a7▸l6,ax _ G6⟩;have n1:∀u,aI Fs I.drew u->Cz u g 1 (.slice Aq qs.length cq):=fun u hu=>(hu.cell mg).trans (F eS);have n2:∀u,aI Fs I.drew u->Cz u O (4+ka) (Iz qa):=fun u hu=>(hu.cell m8).trans (F cS);have n3:∀u,aI Fs I.drew u->Cz u g9 (4+kb) (Iz qb):=fun u hu=>(hu.cell m9).trans (F cT);have n4:∀u,aI Fs I.drew u->Cz u g5 0 (Iz (a:Int)):=fun u hu=>(hu.cell m5).trans (F z5);have n5:∀u,aI Fs I.drew u->Cz u g5 1 (Iz sa):=fun u hu=>(hu.cell m5).trans (F y5);have n6:∀u,aI Fs I.drew u->Cz u g6 0 (Iz (b:Int)):=fun u hu=>(hu.cell m6).trans (F z6);have n7:∀u,aI Fs I.drew u->Cz u g6 1 (Iz sb):=fun u hu=>(hu.cell m6).trans (F y6);obtain⟨f1,c0,ez,hG,f2⟩:=rU ME (dW eR BE) ay cX mg;clear F BE ME a6 a7 eS cS cT z5 z6 y5 y6 l5 l6 l8 l9 ey eR el eo G5 G6 G8 G9 ax cX ay mg m8 m9 m5 m6;refine bx (R:=aI Fs) 23 [19,20,23] [0,1,2,3,4,5,6,7,8,9,10,11,12,13,14,15,16,17,18,19,20,21,22,23] (by kernel_rfl) (aI.tr _) (aI.J _) (by kernel_rfl) (fun _ _ _ _ _ h=>h) ?_;refine Yt ?_;clear n1 n2 n3 n4 n5 n6 n7;refine Ym fun K hK=>?_;refine Yo hK ((fun k hk=>by rw[ez.h] at hk;exact(fo I _).block k hk.1)) ?_;obtain⟨wf,a8⟩:=Zn ((I.alloc (.cells #[Iz (pa+pb),Iz (min qa qb),Iz (a:Int),Iz sa,Iz (b:Int),Iz sb] 178)).drew);have BF:Bz I wf:=a8▸aS (au (aa _ _) _);have eB:wf.heap.size=I.heap.size+1:=by rw[a8];show(I.alloc _).heap.size=_;simp
   have MF:=f1.h.below BF;have CF:Cells wf (some ⟨I.heap.size,0,none⟩) [Iz (pa+pb),Iz (min qa qb),Iz (a:Int),Iz sa,Iz (b:Int),Iz sb]:=a8▸(Cells.lit I #[Iz (pa+pb),Iz (min qa qb),Iz (a:Int),Iz sa,Iz (b:Int),Iz sb] _).drew;have dc:B<=wf.heap.size:=jE MF.lo MF.D.lt;rw[<-a8];refine Zm fun K hK=>?_;refine fZ WC MF.own (A:=some ⟨I.heap.size,0,none⟩) (m:=1) (c:=1) (news:=[Iz (pa+pb),Iz (min qa qb),Iz (a:Int),Iz sa,Iz (b:Int),Iz sb]) _ _ rfl rfl rfl rfl bT CF (by intro u hu;simp at hu;rcases hu with rfl|rfl|rfl|rfl|rfl|rfl<;>rfl) ae dc (qs.length+1) _ rfl rfl ?_;intro A' c' w7 ba;have dp:aI Fs wf w7:=fun k hk=>by
    rw[ez.h] at hk;exact ba.grown.block k ae hk.2
   have b7:=(dp g f2);have c7:Cz w7 g 1 (.slice Aq qs.length cq):=Yd b7 (MF.D.cell 1);have z7:Fz w7 g 1:=(aY (a:=⟨g,1,none⟩) b7).trans (MF.D.frozen 1);obtain⟨eC,f3,eD,f4,hH,hI,f5⟩:=yY BF MF ba dp b7 eB dc;clear a8 BF MF CF ba dp b7 eB dc;refine Yo hK (f4) ?_;refine Yt ?_;refine Zl fun K hK=>?_;go_simp;refine Yl hK ?_;refine aT ?_;go_wp2_with fail
   go_end0
   have f6:(⟨pa+pb,min qa qb,a,ka,b,kb⟩:Qt).cells=[Iz (pa+pb),Iz (min qa qb),Iz (a:Int),Iz sa,Iz (b:Int),Iz sb]:=by unfold Qt.cells;rw[eI.h,eJ.h]
   have eE:=eD.h;rw[<-f6] at eE;have bb:=Js (w0:=w) f3 _ eE (((c0.mono eQ).trans (eC.mono (cA c0.h.size)))) f5 (dW c0 eC);rw[eu.h];exact⟨rfl,A',c',bb.1,bb.2.1,bb.2.2⟩
  ·have e:told (pa+pb)= .returned (.tuple #[Iz (pa+pb), .bool true]):=(pG rfl ae).symm
   have HE:=ao e;clear e;have d2:∀u,aR wd.drew u->Cz u O (2+ka) (Iz pa):=fun u hu=>Yb hu l8 cm;have d3:∀u,aR wd.drew u->Cz u g9 (2+kb) (Iz pb):=fun u hu=>Yb hu l9 cn;go_wp2_with fail;obtain⟨hJ,hL⟩:=dF cm cn;clear cm cn;refine Zg [8] [0,1,2,3,4,5,6,7,8,9,10,11,12,13] ?_;refine Yt ?_;refine Ym fun K hK=>?_;refine(Nc pa pb _ ae ae).mono ?_;rintro e u⟨rfl,rfl⟩;rw[HE.h];refine Yo hK (aa _ _) ?_;refine Yt ?_;refine aT ?_;clear d2 d3;have e':told (pb - pa)= .returned (.tuple #[Iz (pb - pa), .bool true]):=(pG rfl ae).symm;have hM:=ao e';clear e';have d2:∀u,aR wd.drew.drew u->Cz u O (2+ka) (Iz pa):=fun u hu=>Yb hu l8 hJ;have d3:∀u,aR wd.drew.drew u->Cz u g9 (2+kb) (Iz pb):=fun u hu=>Yb hu l9 hL;go_wp2_with fail;refine Zg [8] [0,1,2,3,4,5,6,7,8,9,10,11,12,13] ?_;refine Yt ?_;refine Ym fun K hK=>?_;refine(TU pb pa _ ae ae).mono ?_;rintro e u⟨rfl,rfl⟩;rw[hM.h];refine Yo hK (aa _ _) ?_;refine Yt ?_;refine aT ?_;clear d2 d3;go_wp2_with fail;obtain⟨I,a6⟩:=Zn wd.drew.drew;rw[<-a6];have BE:Bz wd I:=a6▸aS (aS (aa _ _));have F:∀{k i:Nat} {v:Value},Cz wd k i v->Cz I k i v:=fun {k i v} h=>a6▸h;have a7:I.heap.size=wd.heap.size:=by rw[a6];rfl
   have ME:=ey.h.below BE;have ax:∀k,w.heap.size<=k->some k≠(Value.slice Aq qs.length cq).ownBlock:=fun k hk e=>cA (eT k e.symm);have cX:some g≠(Value.slice Aq qs.length cq).ownBlock:=fun e=>by
    obtain⟨cur,hc⟩:=bY ME.own e.symm;exact jY ME.D hc (by decide) rfl
   obtain⟨Fs,ay⟩:=Zn (fun k=>k<I.heap.size/\some k≠(Value.slice Aq qs.length cq).ownBlock:Nat->Prop);have mg:Fs g:=ay▸⟨ME.D.lt,cX⟩;have m8:Fs O:=ay▸⟨a7▸l8,ax _ G8⟩;have m9:Fs g9:=ay▸⟨a7▸l9,ax _ G9⟩;have m5:Fs g5:=ay▸⟨a7▸l5,ax _ G5⟩;have m6:Fs g6:=ay▸⟨a7▸l6,ax _ G6⟩;have n1:∀u,aI Fs I.drew u->Cz u g 1 (.slice Aq qs.length cq):=fun u hu=>(hu.cell mg).trans (F eS);have n2:∀u,aI Fs I.drew u->Cz u O (4+ka) (Iz qa):=fun u hu=>(hu.cell m8).trans (F cS);have n3:∀u,aI Fs I.drew u->Cz u g9 (4+kb) (Iz qb):=fun u hu=>(hu.cell m9).trans (F cT);have n4:∀u,aI Fs I.drew u->Cz u g5 0 (Iz (a:Int)):=fun u hu=>(hu.cell m5).trans (F z5);have n5:∀u,aI Fs I.drew u->Cz u g5 1 (Iz sa):=fun u hu=>(hu.cell m5).trans (F y5);have n6:∀u,aI Fs I.drew u->Cz u g6 0 (Iz (b:Int)):=fun u hu=>(hu.cell m6).trans (F z6);have n7:∀u,aI Fs I.drew u->Cz u g6 1 (Iz sb):=fun u hu=>(hu.cell m6).trans (F y6);obtain⟨f1,c0,ez,hG,f2⟩:=rU ME (dW eR BE) ay cX mg;clear F BE ME a6 a7 eS cS cT z5 z6 y5 y6 l5 l6 l8 l9 ey eR el eo G5 G6 G8 G9 ax cX ay mg m8 m9 m5 m6;refine bx (R:=aI Fs) 23 [19,20,23] [0,1,2,3,4,5,6,7,8,9,10,11,12,13,14,15,16,17,18,19,20,21,22,23] (by kernel_rfl) (aI.tr _) (aI.J _) (by kernel_rfl) (fun _ _ _ _ _ h=>h) ?_;refine Yt ?_;clear n1 n2 n3 n4 n5 n6 n7;refine Ym fun K hK=>?_;refine Yo hK ((fun k hk=>by rw[ez.h] at hk;exact(fo I _).block k hk.1)) ?_;obtain⟨wf,a8⟩:=Zn ((I.alloc (.cells #[Iz (pb - pa),Iz (min qa qb),Iz (a:Int),Iz sa,Iz (b:Int),Iz sb] 178)).drew);have BF:Bz I wf:=a8▸aS (au (aa _ _) _);have eB:wf.heap.size=I.heap.size+1:=by rw[a8];show(I.alloc _).heap.size=_;simp
   have MF:=f1.h.below BF;have CF:Cells wf (some ⟨I.heap.size,0,none⟩) [Iz (pb - pa),Iz (min qa qb),Iz (a:Int),Iz sa,Iz (b:Int),Iz sb]:=a8▸(Cells.lit I #[Iz (pb - pa),Iz (min qa qb),Iz (a:Int),Iz sa,Iz (b:Int),Iz sb] _).drew;have dc:B<=wf.heap.size:=jE MF.lo MF.D.lt;rw[<-a8];refine Zm fun K hK=>?_;refine fZ WC MF.own (A:=some ⟨I.heap.size,0,none⟩) (m:=1) (c:=1) (news:=[Iz (pb - pa),Iz (min qa qb),Iz (a:Int),Iz sa,Iz (b:Int),Iz sb]) _ _ rfl rfl rfl rfl bT CF (by intro u hu;simp at hu;rcases hu with rfl|rfl|rfl|rfl|rfl|rfl<;>rfl) ae dc (qs.length+1) _ rfl rfl ?_;intro A' c' w7 ba;have dp:aI Fs wf w7:=fun k hk=>by
    rw[ez.h] at hk;exact ba.grown.block k ae hk.2
   have b7:=(dp g f2);have c7:Cz w7 g 1 (.slice Aq qs.length cq):=Yd b7 (MF.D.cell 1);have z7:Fz w7 g 1:=(aY (a:=⟨g,1,none⟩) b7).trans (MF.D.frozen 1);obtain⟨eC,f3,eD,f4,hH,hI,f5⟩:=yY BF MF ba dp b7 eB dc;clear a8 BF MF CF ba dp b7 eB dc;refine Yo hK (f4) ?_;refine Yt ?_;refine Zl fun K hK=>?_;go_simp;refine Yl hK ?_;refine aT ?_;go_wp2_with fail
   go_end0
   have f6:(⟨pb - pa,min qa qb,a,ka,b,kb⟩:Qt).cells=[Iz (pb - pa),Iz (min qa qb),Iz (a:Int),Iz sa,Iz (b:Int),Iz sb]:=by unfold Qt.cells;rw[eI.h,eJ.h]
   have eE:=eD.h;rw[<-f6] at eE;have bb:=Js (w0:=w) f3 _ eE (((c0.mono eQ).trans (eC.mono (cA c0.h.size)))) f5 (dW c0 eC);rw[eu.h];exact⟨rfl,A',c',bb.1,bb.2.1,bb.2.2⟩
 ·have et:xe tp a ka b kb less=none:=by
   unfold xe
   cases h1:tp a ka with
   |none=>rfl
   |some x=>
    cases h2:tp b kb with
    |none=>rfl
    |some y=>exact absurd ⟨by rw[ep,h1];rfl,by rw[er,h2];rfl⟩ f0
  have eu:=ao et;have hN:va=false\/(va=true/\vb=false):=by cases va<;>cases vb<;>simp_all
  clear f0 et ep er eM eN eO eP;rcases hN with rfl|⟨rfl,rfl⟩
  ·go_wp2_with fail
   go_quiet (fail)
   go_wp2_with fail
   (try simp only[Exit.inBlock,Exit.then])
   refine bodyPost_ret (results_none rfl _ _ _) rfl ?_;exact⟨rfl,Aq,cq,by rw[eu.h,Option.toList_none,fe];exact HM.below (below_drewN (aa _ _) _),below_drewN (dS.mono eQ) _,Lv.bL (below_drewN dS _)⟩
  ·go_wp2_with fail
   go_quiet (fail)
   go_wp2_with fail
   (try simp only[Exit.inBlock,Exit.then])
   refine bodyPost_ret (results_none rfl _ _ _) rfl ?_;exact⟨rfl,Aq,cq,by rw[eu.h,Option.toList_none,fe];exact HM.below (below_drewN (aa _ _) _),below_drewN (dS.mono eQ) _,Lv.bL (below_drewN dS _)⟩
theorem Cw (s:Int) (w:World) (h:1<=s/\s<=2):Wz 137 #[Iz s] w fun e w'=>e= .returned (Iz (3 - s))/\w=w':=by
 go_enter Tryz.func137,Tryz.ntmps137
 go_wp2;go_ret;exact⟨rfl,rfl⟩
def vX (n:Nat) (tp:kJ) (x k m:Nat):List Qt:=(List.range' (x+1) m).filterMap fun j=>xe tp (fv n x j) k j k false
def vY (n:Nat) (tp:kJ) (x k m:Nat):List Qt:=(List.range m).filterMap fun i=>xe tp (fv n i x) (1 - k) i k true
theorem LJ (n:Nat) (tp:kJ) (x k m:Nat):vX n tp x k (m+1)=vX n tp x k m++(xe tp (fv n x (x+1+m)) k (x+1+m) k false).toList:=by
 unfold vX;rw[List.range'_1_concat,qh];rfl
theorem LK (n:Nat) (tp:kJ) (x k m:Nat):vY n tp x k (m+1)=vY n tp x k m++(xe tp (fv n m x) (1 - k) m k true).toList:=by
 unfold vY;rw[yl,qh];rfl
theorem yM (n:Nat) (tp:kJ) (x k m:Nat):(vX n tp x k m).length<=m:=by
 unfold vX;exact aF (vK _ _) bT
theorem Fi (n:Nat) (tp:kJ) (x k m:Nat):(vY n tp x k m).length<=m:=by
 unfold vY;exact aF (vK _ _) bT
theorem Cx (n:Nat) (tp:kJ) (x k:Nat):(mG n tp x k).length<=1+2*n:=by
 unfold mG
 split
 ·rename_i h
  rw[aC];have D:=yM n tp x k (n - 1 - x);have I:=Fi n tp x k x;unfold vX at D;unfold vY at I;omega
 ·cases(xe tp (cy n x).2 (1 - k) (cy n x).1 k true)<;>simp
theorem fM.gX {P:PD} {mc:Nat} {sc:Nat} (h:fM w g P ma mc sa sc):
  w.cell? ⟨g,0,none⟩=some (.string (str P.code))/\w.cell? ⟨g,1,none⟩=some (.slice ma P.E.length mc)/\w.cell? ⟨g,2,none⟩=some (Iz P.tick)/\w.cell? ⟨g,3,none⟩=some (Iz P.low)/\w.cell? ⟨g,4,none⟩=some (Iz P.high)/\w.cell? ⟨g,5,none⟩=some (Iz P.wide)/\
  w.cell? ⟨g,6,none⟩=some (Iz P.rule)/\w.cell? ⟨g,7,none⟩=some (Iz P.top)/\w.cell? ⟨g,8,none⟩=some (Iz P.least)/\w.cell? ⟨g,9,none⟩=some (Iz P.part)/\w.cell? ⟨g,10,none⟩=some (.slice sa P.settle.length sc):=
 ⟨h.cell 0,h.cell 1,h.cell 2,h.cell 3,h.cell 4,h.cell 5,h.cell 6,h.cell 7,h.cell 8,h.cell 9,h.cell 10⟩
def VS (w w':World) (e:Ending) (qs:List Qt):Prop:=∃A c,e= .returned (.slice A qs.length c)∧w'.ownsRow w.heap.size 178 6 (.slice A qs.length c) qs.length (uD qs)∧Bz w w'
def GC (tp:kJ):Prop:=∀x k p q,tp x k=some (p,q)→(-2000000≤p∧p≤2000000)∧0≤q∧q≤1000000000
theorem NI (P:PD) (ma:Option Addr) (mc:Nat) (sa:Option Addr) (sc:Nat) (A:Option Addr) (c:Nat) (tp:kJ) (x k:Nat) (s:Int) (w:World) (h:iZ w P ma sa) (hT:Cells w A (lC P.count tp)) (hx:x<P.count) (hk:k<2) (hs:s=(k:Int)+1) (hp:GC tp):
  Wz 101 #[P.val ma mc sa sc, .slice A P.count c,Iz (x:Int),Iz s] w fun e w'=>VS w w' e (mG P.n tp x k):=by
 rw[PD.jt];obtain⟨w0,bE⟩:=Zn (w.alloc (.cells (P.cells ma mc sa sc) 25));obtain⟨g,eg⟩:=Zn w.heap.size;have a2:fM w0 g P ma mc sa sc:=bE▸eg▸fM.new _ _ _ _ _ _;have B0:=Zw bE;have h0:=h.below B0;have c0:=hT.below B0;have dc:=h.right.cnt;obtain⟨C,eC⟩:=Zn P.count;rw[<-eC] at hx c0 dc⊢;have eV:1<=s/\s<=2:=ae;obtain⟨eW,H0,HT,a8,EC,HP,HS,HR⟩:=Dw a2 h0 c0 dc eC hp hs h.right;clear a2 h0 h hT c0 dc eC hp hs;have x1:(x:Int)<C:=ae;have x2:¬(C:Int)<=x:=ae;have f9:((C:Int)==0)=false:=by have:=a8.h;simp;omega
 obtain⟨s1,s2⟩:=eV;unfold PD.cells;unfold PD.cells at bE
 go_enter Tryz.func101,Tryz.ntmps101
 go_wp2_with fail;rw[<-bE];have EG:=ao eg;refine(pP P ma mc sa sc w0 H0).mono ?_;rintro e w1⟨rfl,b1⟩;rw[<-eg,<-EC.h];clear bE eg;have b8:=eW.h.below b1;obtain⟨k0,k1,k2,k3,k4,k5,k6,k7,k8,k9,b9⟩:=fM.gX b8;have gv:=b8.lt;obtain⟨dp,h1,ay⟩:=fY b8 (H0.below b1) b1;clear b8 b1
 go_upto_region 2 with(fail)
 go_cut [49] (fun v wx=>v= .bool false/\wx=w1)
 case first=>
  obtain rfl|rfl:s=1\/s=2:=ae
  ·go_wp2_with fail
   go_meet;exact⟨by simp only[Value.bool.injEq,zR,decide_eq_false_iff_not];omega,rfl⟩
  ·go_wp2_with fail
   go_meet;exact⟨by simp only[Value.bool.injEq,zR,decide_eq_false_iff_not];omega,rfl⟩
 obtain⟨rfl,rfl⟩:=hcut;obtain⟨wm,cd⟩:=Zn (wc.alloc (.cells #[.slice A C c, .slice none 0 0] 233));obtain⟨gm,cf⟩:=Zn wc.heap.size;have dS:=Zw cd;have MK:rG wc.heap.size wm gm A C c none 0 []:=⟨cd▸cf▸heap_alloc_new _ _,aM _ _ _ _,ae⟩;obtain⟨ey,eY,ck⟩:=fY (h1.below dS) MK dS;clear MK dS;go_wp2_with fail;rw[<-cd];have gx:=ao cf;refine(rD P ma mc sa sc x wm ey (by rw[<-EC.h];omega)).mono ?_;rintro e w2⟨rfl,b2⟩;rw[<-cf];clear cd cf k0 k1 k2 k3 k4 k5 k6 k7 k8 k9 b9;have cQ:=eY.h.below b2;have ez:=(dp.below ck).below b2;have eA:=((HT.below ay).below ck).below b2;have eB:=ey.h.below b2;have eD:Bz w w2:=dW (dW (dW B0 ay) ck) b2;have eE:Bz wc w2:=dW ck b2;obtain⟨bH,gy,eZ,gA,gG,bQ⟩:=FW cQ ez eA eB eD eE;clear cQ ez eA eB eD eE b2;have xb:(x:Int)<=21:=cA a8.h;have gI:(P.E.length:Int)<=6:=cA HR.h.n6;have f6:C<=21:=a8.1
 by_cases bf:x<P.n
 ·rw[uj bf,show decide (P.n<=x)=false by rw[decide_eq_false_iff_not];omega]
  have gO:(x:Int)<P.E.length:=by have:x<P.E.length:=bf;omega
  have bR:=ao bf;clear bf;obtain⟨gP,f7⟩:=Zn w2;go_wp2_with fail
  go_loopw [17] (fun v wr=> ∃m:Nat,x+1+m<=P.n/\v= Iz ((x+1+m:Nat):Int)/\Hid (∃Aq cq,rG wc.heap.size wr gm A C c Aq cq (vX P.n tp x k m)/\Bz wc wr)) (fun v _=>P.n - (intOf v).toNat)
  case atStart=>exact⟨0,cA bR.h,fE ae,ao ⟨none,0,bH,bQ⟩⟩
  case round=>
   obtain⟨m,hm,rfl,HM⟩:=hrel;obtain⟨Aq,cq,hM,hB⟩:=HM.h;have a2:fM wr g P ma mc sa sc:=dp.below hB;have bh:iZ wr P ma sa:=h1.below hB;have bp:Cells wr A (lC C tp):=(HT.below ay).below hB;obtain⟨k0,k1,k2,k3,k4,k5,k6,k7,k8,k9,b9⟩:=fM.gX a2;obtain⟨dT,d6,e0,e5⟩:=mh hM hB bh bp;clear hM hB HM a2 bh bp;obtain⟨j,ej⟩:=Zn (x+1+m);rw[<-ej] at hm⊢;have d7:x<j:=ae;have bt:=ao ej;clear ej
   by_cases ba:j<P.n
   ·have eF:(j:Int)<P.E.length:=by have:j<P.E.length:=ba;omega
    obtain⟨ax,eG,e6⟩:=fY ba d7 hm;clear ba d7 hm;go_wp2_with fail;refine(zo P ma mc sa sc x j wr e0 eG ax).mono ?_;rintro e w3⟨rfl,b3⟩;obtain⟨sx,a5⟩:=Zn (fv P.n x j);rw[<-a5];have bb:=(HR.spread eG ax).2.1;rw[<-a5,<-EC.h] at bb;obtain⟨d8,bU⟩:=dF a5 bb;have bV:=dT.h.below b3;obtain⟨d9,ea,eb⟩:=fY bV (e5.below b3) b3;clear a5 bb b3 bV;go_wp2_with fail;refine(Cv wc.heap.size gm A C c Aq cq (vX P.n tp x k m) tp sx k j k s s false w3 d9 ea bU (by have h5:=a8.h.2.1;have h6:=ax.h;omega) hk hk ae HS HS HP (by have:=yM P.n tp x k m;have:=a8.h;have:=e6.h;have:=bt.h;omega)).mono ?_;rintro e w4⟨rfl,ed,ef,O,a6, -⟩;obtain⟨a7,bc⟩:=dF O a6;clear O a6;go_wp2_with fail;go_roundw
    case rel=>
     refine⟨m+1,jE ax.h bt.h,fE (cA bt.h),ao ⟨ed,ef,?_,(d6.trans (eb.mono d6.size)).trans bc⟩⟩;rw[LJ];have h5:=a7.h;rw[d8.h,bt.h] at h5;exact h5
    case measure=>have:=ax.h;simp[intOf];omega
   ·have eF:¬(j:Int)<P.E.length:=by have:¬j<P.E.length:=ba;omega
    have eK:j=P.n:=ae;have hL:mG P.n tp x k=vX P.n tp x k m++vY P.n tp x k x:=by
     unfold mG;rw[if_pos bR.h,show P.n - 1 - x=m by have:=bt.h;omega];rfl
    obtain⟨L,eL⟩:=Zn (vX P.n tp x k m);have eM:L.length<=6:=by rw[eL];have:=yM P.n tp x k m;have:=a8.h;have:=bt.h;omega
    have ei:=dT.h;rw[<-eL] at ei hL;obtain⟨e7,HL,e9,gR⟩:=mh ei hL eM eK;obtain⟨wo,rfl⟩:=Zn wr;clear ei hL eM eL eK ba d7 hm dT;go_wp2_with fail;clear eF k0 k1 k2 k3 k4 k5 k6 k7 k8 k9 b9
    go_loopw [120] (fun v wr=> ∃i:Nat,i<=x/\v= Iz (i:Int)/\Hid (∃Aq cq,rG wc.heap.size wr gm A C c Aq cq (L++vY P.n tp x k i)/\Bz wc wr)) (fun v _=>x - (intOf v).toNat)
    case atStart=>exact⟨0,ae,rfl,ao ⟨Aq,cq,by show rG _ _ _ _ _ _ _ _ (L++[]);rw[fe];exact e7,d6⟩⟩
    case round=>
     obtain⟨i,hi,rfl,HM⟩:=hrel;obtain⟨ek,eo,hM,hB⟩:=HM.h;have a2:fM wr g P ma mc sa sc:=dp.below hB;have bh:iZ wr P ma sa:=h1.below hB;have bp:Cells wr A (lC C tp):=(HT.below ay).below hB;obtain⟨eN,ep,eO,eP⟩:=mh hM hB bh bp
     by_cases ba:i<x
     ·obtain⟨k0,k1,k2,k3,k4,k5,k6,k7,k8,k9,b9⟩:=fM.gX a2
      have gT:(i:Int)<x:=ae;clear hM hB HM a2 bh bp;obtain⟨ax,HI⟩:=dF ba hi;clear ba hi;go_wp2_with fail;refine(zo P ma mc sa sc i x wr eO ax bR).mono ?_;rintro e w3⟨rfl,b3⟩;obtain⟨sx,a5⟩:=Zn (fv P.n i x);rw[<-a5];have bb:=(HR.spread ax bR).2.1;rw[<-a5,<-EC.h] at bb;obtain⟨d8,bU⟩:=dF a5 bb;have bV:=eN.h.below b3;obtain⟨d9,ea,eb⟩:=fY bV (eP.below b3) b3;clear a5 bb b3 bV;go_wp2_with fail;refine(Cw s w3 ⟨s1,s2⟩).mono ?_;rintro e u3⟨rfl,rfl⟩;go_wp2_with fail;refine(Cv wc.heap.size gm A C c ek eo (L++vY P.n tp x k i) tp sx (1 - k) i k (3 - s) s true w3 d9 ea bU (by have h5:=a8.h.2.1;have h6:=ax.h;have:=bR.h;omega) ae hk ae (cA HS.h) HS HP (by rw[aC];have:=Fi P.n tp x k i;have:=e9.h;omega)).mono ?_;rintro e w4⟨rfl,ed,ef,O,a6, -⟩;obtain⟨a7,bc⟩:=dF O a6;clear O a6;go_wp2_with fail;go_roundw
      case rel=>
       refine⟨i+1,cA ax.h,by go_num,ao ⟨ed,ef,?_,(ep.trans (eb.mono ep.size)).trans bc⟩⟩;rw[LK,<-bD];have h5:=a7.h;rw[d8.h] at h5;exact h5
      case measure=>have:=ax.h;simp[intOf];omega
     ·obtain rfl:i=x:=ae
      obtain⟨L2,er⟩:=Zn (L++vY P.n tp i k i);rw[<-er] at hM;have c1:Cz wr gm 1 (.slice ek L2.length eo):=hM.D.cell 1;obtain⟨fa,ff⟩:=dF hM er;clear hM hB HM a2 bh bp er eN;go_wp2_with fail;go_ret;rw[HL.h,<-ff.h];exact⟨ek,eo,rfl,ch fa.own (jE B0.size ay.h.size),dW (dW B0 ay) ep⟩
 ·rw[show decide (P.n<=x)=true by rw[decide_eq_true_iff];omega]
  have hl:=HR.h.RG (x:=x) ae (EC.h▸hx);obtain⟨I,eI⟩:=Zn ((cy P.n x).1);obtain⟨J,eJ⟩:=Zn ((cy P.n x).2);rw[<-eI,<-eJ] at hl⊢;have cS:mG P.n tp x k=((xe tp J (1 - k) I k true).map rp).toList:=by unfold mG;rw[if_neg bf,<-eI,<-eJ]
  obtain⟨cT,fi⟩:=dF cS hl;clear cS hl eI eJ bf;go_wp2_with fail;refine(Cw s w2 ⟨s1,s2⟩).mono ?_;rintro e u3⟨rfl,rfl⟩;go_wp2_with fail;obtain⟨w3,b0⟩:=Zn ((w2.alloc (.cells #[Iz (I:Int),Iz s] 175)).alloc (.cells #[Iz (J:Int),Iz (3 - s)] 175));obtain⟨gi,et⟩:=Zn w2.heap.size;obtain⟨gj,eu⟩:=Zn (w2.heap.size+1);have DJ:aE w3 gj 175 #[Iz (J:Int),Iz (3 - s)]:=by
   have:=aE.new (w2.alloc (.cells #[Iz (I:Int),Iz s] 175)) #[Iz (J:Int),Iz (3 - s)] 175;rw[b0,eu];simpa using this
  have DI:aE w3 gi 175 #[Iz (I:Int),Iz s]:=b0▸et▸(aE.new w2 #[Iz (I:Int),Iz s] 175).block (du _ _ _ bT);have B3:Bz w2 w3:=b0▸au (au (aa _ _) _) _;rw[<-b0,<-eu,<-et];have g3:w2.heap.size<=gi:=ae;have g4:w2.heap.size<=gj:=ae;have f8:gm<w2.heap.size:=bH.D.lt;clear b0 et eu;have g6:=fi.h;have g7:=a8.h.2.1;obtain⟨l,el⟩:=Zn ((xe tp J (1 - k) I k true).toList);refine(Cv wc.heap.size gm A C c none 0 [] tp J (1 - k) I k (3 - s) s true w3 (bH.below B3) (eZ.below B3) ae ae ae hk ae (cA HS.h) HS HP bT).mono ?_;rw[<-el];rintro e w4⟨rfl,Aq,cq,O,a6,cl⟩;rw[List.nil_append] at O;have cm:aE w4 gi 175 #[Iz (I:Int),Iz s]:=DI.lv cl (by rintro(e|e);omega;simp[Value.ownBlock] at e);have cn:aE w4 gj 175 #[Iz (J:Int),Iz (3 - s)]:=DJ.lv cl (by rintro(e|e);omega;simp[Value.ownBlock] at e);have B4:Bz wc w4:=(bQ.trans (B3.mono bQ.size)).trans a6;have fk:l=[]\/∃q,l=[q]/\xe tp J (1 - k) I k true=some q:=by
   rw[el]
   cases hq:xe tp J (1 - k) I k true with
   |none=>exact .inl rfl
   |some q=>exact .inr ⟨q,rfl,rfl⟩
  have EL:=ao el;clear el;rcases fk with rfl|⟨q,rfl,hq⟩
  ·have c1:Cz w4 gm 1 (.slice Aq 0 cq):=O.D.cell 1
   have b7:mG P.n tp x k=[]:=by
    rw[cT.h];have h5:=EL.h
    cases hq:xe tp J (1 - k) I k true with
    |none=>rfl
    |some q=>rw[hq] at h5;cases h5
   obtain⟨ew,a7,bc⟩:=fY b7 O B4;clear b7 O cl a6 DI DJ cm cn B3 B4;go_wp2_with fail
   go_loopw [77] (fun v wr=>v= Iz 0/\wr=w4) (fun _ _=>0)
   case atStart=>exact⟨rfl,rfl⟩
   case round=>
    obtain⟨rfl,rfl⟩:=hrel;go_wp2_with fail;go_ret;rw[ew.h];exact⟨Aq,cq,rfl,ch a7.own (jE B0.size ay.h.size),dW (dW B0 ay) bc⟩
  ·have c1:Cz w4 gm 1 (.slice Aq 1 cq):=O.D.cell 1
   have b7:mG P.n tp x k=[rp q]:=by rw[cT.h,hq];rfl
   have eQ:q.i0=J/\q.k0=1 - k/\q.i1=I/\q.k1=k:=by
    unfold xe at hq
    split at hq
    ·injection hq with hq;subst hq;exact⟨rfl,rfl,rfl,rfl⟩
    ·cases hq
   obtain⟨gq,fq,_,_⟩:=kz O.own bT;subst fq;have cX:=O.own;have eR:gq≠gm/\gq≠gi/\gq≠gj:=by
    obtain⟨cur,hc⟩:=bY O.own (g:=gq) rfl;exact⟨jY O.D hc (by decide),jY cm hc (by decide),jY cn hc (by decide)⟩
   obtain⟨ew,a7,bc,ct,cv,fx,fz,a0⟩:=Dw b7 O B4 cm cn eQ eR cX;clear b7 O cl a6 DI DJ cm cn B3 B4 hq eQ eR cX;go_wp2_with fail
   go_loopw [77] (fun v wr=>(v= Iz 0/\wr=w4)\/(v= Iz 1/\Hid (rG wc.heap.size wr gm A C c (some ⟨gq,0,none⟩) cq [rp q]/\Bz wc wr))) (fun v _=>1 - (intOf v).toNat)
   case atStart=>exact .inl ⟨rfl,rfl⟩
   case round=>
    rcases hrel with⟨rfl,rfl⟩|⟨rfl,HF⟩
    ·have fH:=a7.h.D.lt
     have hq:=dI (j:=2) (v:= Iz (q.i0:Int)) a0 rfl;have g8:=dI (j:=3) (v:= Iz ((q.k0:Int)+1)) a0 rfl;have g9:=dI (j:=4) (v:= Iz (q.i1:Int)) a0 rfl;have hb:=dI (j:=5) (v:= Iz ((q.k1:Int)+1)) a0 rfl;have f2:=fJ a0 2;have f3:=fJ a0 3;have f4:=fJ a0 4;have f5:=fJ a0 5;have d1:∀u,Below wr.heap.size wr.drew u->Cz u gm 1 (.slice (some ⟨gq,0,none⟩) 1 cq):=fun u hu=>Yb hu fH c1;have d2:∀u,Below wr.heap.size wr.drew u->Cz u gi 0 (Iz (I:Int)):=fun u hu=>Yb hu ct.lt (ct.cell 0);have d3:∀u,Below wr.heap.size wr.drew u->Cz u gi 1 (Iz s):=fun u hu=>Yb hu ct.lt (ct.cell 1);have d4:∀u,Below wr.heap.size wr.drew u->Cz u gj 0 (Iz (J:Int)):=fun u hu=>Yb hu cv.lt (cv.cell 0);have d5:∀u,Below wr.heap.size wr.drew u->Cz u gj 1 (Iz (3 - s)):=fun u hu=>Yb hu cv.lt (cv.cell 1);have o2:=jM a0 (j:=2) (v:= Iz (q.i0:Int)) rfl (Iz (I:Int));have o3:=jM o2 (j:=3) (v:= Iz ((q.k0:Int)+1)) rfl (Iz s);have o4:=jM o3 (j:=4) (v:= Iz (q.i1:Int)) rfl (Iz (J:Int));have o5:=jM o4 (j:=5) (v:= Iz ((q.k1:Int)+1)) rfl (Iz (3 - s));have eS:((((uD [q]).set 2 (Iz (I:Int))).set 3 (Iz s)).set 4 (Iz (J:Int))).set 5 (Iz (3 - s))=uD [rp q]:=by
      obtain⟨e1,e2,e3,e4⟩:=fx.h;have hs:=HS.h;have h5:((1 - k:Nat):Int)+1=3 - s:=ae;unfold uD rp Qt.cells;simp only[bj,List.flatMap_nil,fe,e1,e2,e3,e4,h5,<-hs];rfl
     rw[eS] at o5;have cF:wc.heap.size<=gq:=(a0.lt gq rfl).1;have eT:=(((bc.setCell cF (p:=⟨gq,2,none⟩) (Iz (I:Int))).setCell cF (p:=⟨gq,3,none⟩) (Iz s)).setCell cF (p:=⟨gq,4,none⟩) (Iz (J:Int))).setCell cF (p:=⟨gq,5,none⟩) (Iz (3 - s));have eU:aE ((((wr.setCell ⟨gq,2,none⟩ (Iz (I:Int))).setCell ⟨gq,3,none⟩ (Iz s)).setCell ⟨gq,4,none⟩ (Iz (J:Int))).setCell ⟨gq,5,none⟩ (Iz (3 - s))) gm 233 #[.slice A C c, .slice (some ⟨gq,0,none⟩) 1 cq]:=by
      refine a7.D.block ?_;have cH:gm≠gq:=fun e=>fz.1 e.symm;rw[av _ _ _ _ cH,av _ _ _ _ cH,av _ _ _ _ cH,av _ _ _ _ cH]
     obtain⟨fT,f0,f1⟩:=fY o5 eT eU;clear o2 o3 o4 o5 eS eT eU;go_wp2_with fail;refine Zb wr.heap.size 10 [10] [0,1,2,3,4,5,6,7,8,9,10] ?_;refine Yt ?_;clear d1 d2 d3 d4 d5;refine Zl fun K hK=>?_;go_simp;refine Yl hK ?_;refine aT ?_;go_wp2_with fail;go_roundw
     case rel=>exact .inr ⟨rfl,ao ⟨⟨f1.drew,aX fT fun _ _=>rfl,a7.lo⟩,f0.drew⟩⟩
     case measure=>simp[intOf]
    ·have c2:Cz wr gm 1 (.slice (some ⟨gq,0,none⟩) 1 cq):=HF.1.D.cell 1
     clear c1;go_wp2_with fail;go_ret;rw[ew.h];exact⟨_,cq,rfl,ch HF.1.own (jE B0.size ay.h.size),dW (dW B0 ay) HF.2⟩
theorem Cy (h:Cells w A (uD l)) (hm:m<l.length):
  ∃b o q,A=some ⟨b,o,none⟩/\b<w.heap.size/\w.cell? ⟨b,o+m*6,none⟩=some (Iz q.ag)/\w.cell? ⟨b,o+m*6+1,none⟩=some (Iz q.aw)/\w.cell? ⟨b,o+m*6+2,none⟩=some (Iz (q.i0:Int))/\w.cell? ⟨b,o+m*6+3,none⟩=some (Iz ((q.k0:Int)+1))/\w.cell? ⟨b,o+m*6+4,none⟩=some (Iz (q.i1:Int))/\w.cell? ⟨b,o+m*6+5,none⟩=some (Iz ((q.k1:Int)+1))/\Hid (l[m]?=some q):=by
 have I:=Jr l;have D:uD l≠[]:=by intro e;rw[e] at I;simp at I;omega
 obtain⟨b,o,rfl,J,hc⟩:=h D;have hr:l[m]?=some l[m]:=aj hm;have key:∀(j:Nat) (v:Value),j<6->(l[m]).cells[j]?=some v->Cz w b (o+m*6+j) v:=fun j v O hv=>by
  rw[bg];exact hc _ _ ((ig Qt.bG j O hr).trans hv)
 exact⟨b,o,l[m],rfl,J,key 0 _ ae rfl,key 1 _ ae rfl,key 2 _ ae rfl,key 3 _ ae rfl,key 4 _ ae rfl,key 5 _ ae rfl,hr⟩
theorem Jt {f:Qt->Bool} (h:l[m]?=some q):(l.take (m+1)).filter f=(l.take m).filter f++if f q=true then [q] else []:=by
 rw[bC,h,Ea]
 congr 1
 simp only[tB,gN,List.filter_nil]
theorem pV (P:PD) (ma:Option Addr) (mc:Nat) (sa:Option Addr) (sc:Nat) (A:Option Addr) (c:Nat) (tp:kJ) (x k:Nat) (s:Int) (w:World) (h:iZ w P ma sa) (hT:Cells w A (lC P.count tp)) (hx:x<P.count) (hk:k<2) (hs:s=(k:Int)+1) (hp:GC tp):
  Wz 62 #[P.val ma mc sa sc, .slice A P.count c,Iz (x:Int),Iz s] w fun e w'=>VS w w' e (iq P tp x k):=by
 rw[PD.jt];obtain⟨w0,ax⟩:=Zn (w.alloc (.cells (P.cells ma mc sa sc) 25));obtain⟨g,eg⟩:=Zn w.heap.size;have bt:fM w0 g P ma mc sa sc:=ax▸eg▸fM.new _ _ _ _ _ _;have B0:=Zw ax;have h0:=h.below B0;have bE:=hT.below B0;have bH:=h.right.cnt;have bQ:iq P tp x k=(mG P.n tp x k).filter fun q=>P.fy x q.ag==0:=rfl;have hlen:=Cx P.n tp x k;obtain⟨bR,H0,HT,b8,b9,bU,HX,HS⟩:=Dw bt h0 bE bH bQ hlen hx hs;clear bt h0 h hT bE bH bQ hlen hs;unfold PD.cells;unfold PD.cells at ax
 go_enter Tryz.func62,Tryz.ntmps62
 go_wp2_with fail;rw[<-ax];have EG:=ao eg;refine(NI P ma mc sa sc A c tp x k s w0 H0 HT hx hk HS hp).mono ?_;rintro e w1⟨A1,c1,rfl,ay,b1⟩;rw[<-eg];clear ax eg hp hx;obtain⟨l,el⟩:=Zn (mG P.n tp x k);rw[<-el] at ay⊢;have cd:l.length<=20:=by rw[el];have:=bU.h;have:=b8.h;omega
 have C1:=dP.O ay;obtain⟨cf,a0,EL,cv⟩:=mh C1 b1 el cd;clear ay b1 el C1;go_wp2_with fail
 go_loopw [9,18] (fun v i wr=> ∃m:Nat,m<=l.length/\i= Iz (m:Int)/\Hid (wr.ownsRow w1.heap.size 178 6 v ((l.take m).filter fun q=>P.fy x q.ag==0).length (uD ((l.take m).filter fun q=>P.fy x q.ag==0))/\Bz w1 wr)) (fun _ i _=>l.length - (intOf i).toNat)
 case atStart=>exact⟨0,aB _,rfl,ao ⟨aM _ _ _ _,aa _ _⟩⟩
 case round=>
  obtain⟨m,hm,rfl,HM⟩:=hrel;obtain⟨D,hB⟩:=HM.h
  by_cases ba:m<l.length
  ·obtain⟨b,o,q,rfl,hb,c0,ck,c2,c3,c4,c5,hq⟩:=Cy (cf.below hB) ba
   obtain⟨k0,k1,k2,k3,k4,k5,k6,k7,k8,k9,cl⟩:=fM.gX ((bR.below a0).below hB);have bV:iZ wr P ma sa:=(H0.below a0).below hB;have i1:(m:Int)<l.length:=ae;have cm:g<wr.heap.size:=((bR.below a0).below hB).lt;obtain⟨Lq,a2⟩:=Zn ((l.take m).filter fun q=>P.fy x q.ag==0);rw[<-a2] at D;have cF:Lq.length<=20:=by rw[a2];refine aF (qi _ _) (aF (nA _ _) ae)
   obtain⟨bb,HB,HP,b0,a5⟩:=rU D hB bV a2 ba;clear D hB HM bV a2 ba hm;have a6:Bz wr (wr.alloc (.cells #[Iz q.ag,Iz q.aw,Iz (q.i0:Int),Iz ((q.k0:Int)+1),Iz (q.i1:Int),Iz ((q.k1:Int)+1)] 178)):=au (aa _ _) _;go_wp2_with fail;refine(pQ P ma mc sa sc x q.ag _ (HP.below a6)).mono ?_;rintro e w3⟨rfl,b3⟩;obtain⟨wq,bc⟩:=Zn (wr.alloc (.cells #[Iz q.ag,Iz q.aw,Iz (q.i0:Int),Iz ((q.k0:Int)+1),Iz (q.i1:Int),Iz ((q.k1:Int)+1)] 178));obtain⟨gq,a7⟩:=Zn wr.heap.size;have DQ:=Zq bc a7;rw[<-bc] at a6 b3;rw[<-a7,Jm P HX.h];have I:=DQ.below b3;have B3:=dW a6 b3;have q0:=I.cell 0;have q1:=I.cell 1;have q2:=I.cell 2;have q3:=I.cell 3;have q4:=I.cell 4;have q5:=I.cell 5;have a8:=bP bb B3;obtain⟨cH,bf,b2⟩:=fY a7 B3 a8;obtain⟨y,ey⟩:=Zn (P.fy x q.ag);rw[<-ey];have EY:=ao ey;clear bc a7 k0 k1 k2 k3 k4 k5 k6 k7 k8 k9 cl c0 ck c2 c3 c4 c5 a6 b3 DQ I B3 a8 cm ey;have J:=Jt (f:=fun q=>P.fy x q.ag==0) hq.h
   by_cases hy:y=0
   ·subst hy
    rw[if_pos (by rw[<-EY.h];rfl),<-b0] at J;have bh:=ao J;clear J
    go_wp2_with (at_builtin
                 refine dO WC b2 #[Iz q.ag,Iz q.aw,Iz (q.i0:Int),Iz ((q.k0:Int)+1),Iz (q.i1:Int),Iz ((q.k1:Int)+1)] rfl _ _ rfl rfl rfl rfl (by intro u hu;simp at hu;rcases hu with rfl|rfl|rfl|rfl|rfl|rfl<;>rfl) ae (jE HB.h.size bf.h.size) ?_;intro A4 c4 w4 b7 g4 b4 l4)
    go_roundw
    case rel=>
     refine⟨m+1,cA a5.h,by go_num,ao ⟨?_,?_⟩⟩
     ·rw[bh.h,aC,Fh]
      exact b7
     ·exact b4 _ _ (af _) (HB.trans (bf.mono HB.size))
    case measure=>have:=a5.h;simp[intOf];omega
   ·have cn:(y==0)=false:=by simpa using hy
    rw[if_neg (by rw[<-EY.h,cn];simp),fe,<-b0] at J;have bh:=ao J;clear J hy;go_wp2_with fail;go_roundw
    case rel=>exact⟨m+1,cA a5.h,by go_num,ao ⟨bh.h▸b2,HB.trans (bf.mono HB.size)⟩⟩
    case measure=>have:=a5.h;simp[intOf];omega
  ·obtain rfl:m=l.length:=ae
   rw[dE] at D;obtain⟨L2,bp⟩:=Zn (iq P tp x k);rw[EL.h,<-b9.h,<-bp] at D;obtain⟨A2,c2,rfl,_⟩:=gD D;obtain⟨bb,HB,ct⟩:=fY D hB bp;clear D hB HM bp;go_wp2_with fail;go_ret;rw[<-ct.h];exact⟨A2,c2,rfl,ch bb (jE B0.size a0.h.size),dW (dW B0 a0) HB⟩
theorem Ju (side x y:Int) (k:Nat) (O:side=(k:Int)+1) (w:World):Wz 136 #[Iz side,Iz x,Iz y] w fun e w'=>e= .returned (.bool (bz k x y))/\w=w':=by
 obtain⟨B,D⟩:=Zn (bz k x y);rw[<-D]
 by_cases I:side=1
 ·have J:k=0:=ae
  subst I;subst J;have e:B=decide (y<x):=by rw[D];simp[bz]
  subst e;clear D O
  go_enter Tryz.func136,Tryz.ntmps136
  go_wp2;go_ret;exact⟨rfl,rfl⟩
 ·have J:k≠0:=ae
  have e:B=decide (x<y):=by rw[D];simp[bz,J]
  subst e;have h2:(side==1)=false:=by simp;exact I
  clear D O I
  go_enter Tryz.func136,Tryz.ntmps136
  go_wp2;go_ret;exact⟨rfl,rfl⟩
def Fj (k:Nat) (b q:Qt):Qt:=if bz k q.ag b.ag=true then q else b
theorem Px {α β:Type} {l:List α} {f:β->α->β} {b:β} {q:α} (h:l[m]?=some q):(l.take (m+1)).foldl f b=f ((l.take m).foldl f b) q:=by
 rw[bC,h,Hh];rfl
def Qt.arr (q:Qt):Array Value:=#[Iz q.ag,Iz q.aw,Iz (q.i0:Int),Iz ((q.k0:Int)+1),Iz (q.i1:Int),Iz ((q.k1:Int)+1)]
def Qt.val (q:Qt):Value:= .agg q.arr
def Sk:Value:= .agg #[Iz 0,Iz 0,Iz 0,Iz 0,Iz 0,Iz 0]
def Py (w:World) (g:Nat) (q:Qt):World:=(((((w.setCell ⟨g,0,none⟩ (Iz q.ag)).setCell ⟨g,0+1,none⟩ (Iz q.aw)).setCell ⟨g,0+1+1,none⟩ (Iz (q.i0:Int))).setCell ⟨g,0+1+1+1,none⟩ (Iz ((q.k0:Int)+1))).setCell ⟨g,0+1+1+1+1,none⟩ (Iz (q.i1:Int))).setCell ⟨g,0+1+1+1+1+1,none⟩ (Iz ((q.k1:Int)+1))
theorem NJ (h:aE w g 178 cs) (D:cs.size=6) (q:Qt):aE (Py w g q) g 178 q.arr:=by
 have:=bO (us:=[Iz q.ag,Iz q.aw,Iz (q.i0:Int),Iz ((q.k0:Int)+1),Iz (q.i1:Int),Iz ((q.k1:Int)+1)]) h (by rw[D];rfl);exact this
theorem PA {k:Nat} (q:Qt) (h:k≠g):(Py w g q).heap[k]?=w.heap[k]?:=mJ (us:=[Iz q.ag,Iz q.aw,Iz (q.i0:Int),Iz ((q.k0:Int)+1),Iz (q.i1:Int),Iz ((q.k1:Int)+1)]) (i:=0) h
theorem CA {w0:World} (q:Qt) (hg:B<=g) (h:Below B w0 w):Below B w0 (Py w g q):=bA (us:=[Iz q.ag,Iz q.aw,Iz (q.i0:Int),Iz ((q.k0:Int)+1),Iz (q.i1:Int),Iz ((q.k1:Int)+1)]) (i:=0) hg h
theorem aE.XR (h:aE w g 178 q.arr):w.cell? ⟨g,0,none⟩=some (Iz q.ag)/\w.cell? ⟨g,1,none⟩=some (Iz q.aw)/\w.cell? ⟨g,2,none⟩=some (Iz (q.i0:Int))/\w.cell? ⟨g,3,none⟩=some (Iz ((q.k0:Int)+1))/\w.cell? ⟨g,4,none⟩=some (Iz (q.i1:Int))/\w.cell? ⟨g,5,none⟩=some (Iz ((q.k1:Int)+1)):=
 ⟨h.cell 0,h.cell 1,h.cell 2,h.cell 3,h.cell 4,h.cell 5⟩
theorem aE.oD {T:TypeId} (h:aE w g T cs):w.frozen? ⟨g,0,none⟩=false/\w.frozen? ⟨g,1,none⟩=false/\w.frozen? ⟨g,2,none⟩=false/\w.frozen? ⟨g,3,none⟩=false/\w.frozen? ⟨g,4,none⟩=false/\w.frozen? ⟨g,5,none⟩=false:=
 ⟨h.frozen 0,h.frozen 1,h.frozen 2,h.frozen 3,h.frozen 4,h.frozen 5⟩
theorem PB (A:Option Addr) (c:Nat) (s:Int) (w:World):Wz 100 #[.slice A 0 c,Iz s] w fun e w'=>e= .returned (.tuple #[Sk, .bool false])/\Bz w w':=by
 obtain⟨wz,D⟩:=Zn (w.alloc (.cells #[Iz 0,Iz 0,Iz 0,Iz 0,Iz 0,Iz 0] 178));obtain⟨J,O⟩:=Zn w.heap.size;have I:=Zq D O;have B4:=Zw D;have ay:w.heap.size<=J:=ae
 go_enter Tryz.func100,Tryz.ntmps100
 go_upto_region 1 with(fail)
 rw[<-D,<-O];clear D O;have z0:=I.cell 0;have z1:=I.cell 1;have z2:=I.cell 2;have z3:=I.cell 3;have z4:=I.cell 4;have z5:=I.cell 5;obtain⟨y0,y1,y2,y3,y4,y5⟩:=I.oD;have hw:=bO (us:=[Iz 0,Iz 0,Iz 0,Iz 0,Iz 0,Iz 0]) I rfl;have hb:=bA (us:=[Iz 0,Iz 0,Iz 0,Iz 0,Iz 0,Iz 0]) (i:=0) ay B4;simp only[fW] at hw hb;obtain⟨HW,HB⟩:=dF hw hb;clear hw hb I B4;go_wp2_with fail
 (try simp only[Exit.inBlock,Exit.then])
 obtain⟨wf,ax⟩:=Zn ((((((wz.setCell ⟨J,0,none⟩ (Iz 0)).setCell ⟨J,0+1,none⟩ (Iz 0)).setCell ⟨J,0+1+1,none⟩ (Iz 0)).setCell ⟨J,0+1+1+1,none⟩ (Iz 0)).setCell ⟨J,0+1+1+1+1,none⟩ (Iz 0)).setCell ⟨J,0+1+1+1+1+1,none⟩ (Iz 0));have hw:=HW.h;have hb:=HB.h;rw[<-ax] at hw hb;refine iv ax ?_;have r0:=hw.cell 0;have r1:=hw.cell 1;have r2:=hw.cell 2;have r3:=hw.cell 3;have r4:=hw.cell 4;have r5:=hw.cell 5;clear z0 z1 z2 z3 z4 z5 y0 y1 y2 y3 y4 y5;refine bodyPost_ret (v:= .tuple #[Sk, .bool false]) (by simp[results,Tryz.results100,go_sem,r0,r1,r2,r3,r4,r5,Sk];try rfl) rfl ?_;exact⟨rfl,hb⟩
theorem PC (A:Option Addr) (n c:Nat) (q0:Qt) (tl:List Qt) (k:Nat) (s:Int) (w:World) (hn:tl.length+1=n) (hl:n<=1000) (hA:Cells w A (uD (q0::tl))) (hk:k<2) (hs:s=(k:Int)+1):
  Wz 100 #[.slice A n c,Iz s] w fun e w'=>e= .returned (.tuple #[((q0::tl).foldl (Fj k) q0).val, .bool true])/\Bz w w':=by
 obtain⟨b,o,q,rfl,hb,c0,c1,c2,c3,c4,c5,hq⟩:=Cy hA (m:=0) bT;obtain rfl:q0=q:=by have:=hq.h;simpa using this
 have bE:Cz w b o (Iz q0.ag):=by simpa using c0
 have bH:Cz w b (o+1) (Iz q0.aw):=by simpa using c1
 have bQ:Cz w b (o+2) (Iz (q0.i0:Int)):=by simpa using c2
 have bR:Cz w b (o+3) (Iz ((q0.k0:Int)+1)):=by simpa using c3
 have bU:Cz w b (o+4) (Iz (q0.i1:Int)):=by simpa using c4
 have bV:Cz w b (o+5) (Iz ((q0.k1:Int)+1)):=by simpa using c5
 have i0:((n:Int)==0)=false:=iW;have i1:(0:Int)<n:=ae;obtain⟨cv,HS,HN⟩:=fY hA hs hn;clear c0 c1 c2 c3 c4 c5 hA hs hq hn;have s1:1<=s/\s<=2:=cA HS.h;obtain⟨s1,s2⟩:=s1
 go_enter Tryz.func100,Tryz.ntmps100
 obtain⟨wz,J⟩:=Zn (w.alloc (.cells #[Iz 0,Iz 0,Iz 0,Iz 0,Iz 0,Iz 0] 178));obtain⟨g4,ay⟩:=Zn w.heap.size;have D4:=Zq J ay;have B4:=Zw J;have b0:w.heap.size<=g4:=ae;have hz:wz.heap.size=w.heap.size+1:=by rw[J];simp
 go_upto_region 1 with(fail)
 rw[<-J,<-ay];have d7:=ao ay;clear J ay;have mv:∀{i:Nat} {v:Value},Cz w b i v->Cz wz b i v:=fun {i v} h=>Yb B4 hb h;have d0:=mv bE;have d1:=mv bH;have d2:=mv bQ;have d3:=mv bR;have d4:=mv bU;have d5:=mv bV;have cF:b<wz.heap.size:=ae;obtain⟨b2,b7,HZ⟩:=fY D4 B4 hz;clear bE bH bQ bR bU bV mv D4 B4 hz
 go_cut [19] (fun v wx=>v= .bool false/\wx=wz)
 case first=>
  obtain rfl|rfl:s=1\/s=2:=ae
  ·go_wp2_with fail
   go_meet;exact⟨rfl,rfl⟩
  ·go_wp2_with fail
   go_meet;exact⟨rfl,rfl⟩
 obtain⟨rfl,rfl⟩:=hcut;go_wp2_with fail;obtain⟨wd,a0⟩:=Zn (wc.alloc (.cells q0.arr 178));obtain⟨g6,a8⟩:=Zn wc.heap.size;have D6:aE wd g6 178 q0.arr:=a0▸a8▸heap_alloc_new _ _;have B6:=Zw a0;rw[show(wc.alloc (.cells #[Iz q0.ag,Iz q0.aw,Iz (q0.i0:Int),Iz ((q0.k0:Int)+1),Iz (q0.i1:Int),Iz ((q0.k1:Int)+1)] 178))=wd from a0.symm,<-a8];have b8:=b2.h.below B6;have Bd:=dW b7 B6;have b9:w.heap.size<=g6:=cA b7.h.size;have a7:g4≠g6:=cA b2.h.lt;obtain⟨cH,cd,cQ,cS,cf,cT⟩:=FW D6 b8 Bd b9 a7 b0;clear a0 a8 D6 B6 b8 Bd b9 a7 b0 d0 d1 d2 d3 d4 d5 cF i0 i1;obtain⟨l,el⟩:=Zn (q0::tl);have ck:l.length=n:=by rw[el,<-HN.h];rfl
 have cl:Cells w (some ⟨b,o,none⟩) (uD l):=el▸cv;obtain⟨cm,cX,EL⟩:=fY ck cl el;clear ck cl el
 go_loopw [26] (fun v wr=> ∃m:Nat,m<=n/\v= Iz (m:Int)/\Hid (aE wr g6 178 ((l.take m).foldl (Fj k) q0).arr/\aE wr g4 178 #[Iz 0,Iz 0,Iz 0,Iz 0,Iz 0,Iz 0]/\Bz w wr)) (fun v _=>n - (intOf v).toNat)
 case atStart=>exact⟨0,aB _,rfl,ao ⟨cH,cd,cQ⟩⟩
 case round=>
  obtain⟨m,hm,rfl,HM⟩:=hrel;obtain⟨E6,O,hB⟩:=HM.h
  by_cases ba:m<n
  ·obtain⟨b',o',q,eA,d8,c0,c1,c2,c3,c4,c5,hq⟩:=Cy (cX.below hB) (m:=m) (cm.h▸ba)
   injection eA with eA;injection eA with e1 e2;subst e1;subst e2;obtain⟨bq,a2⟩:=Zn ((l.take m).foldl (Fj k) q0);rw[<-a2] at E6;have bb:=Px (f:=Fj k) (b:=q0) hq.h;rw[<-a2] at bb;obtain⟨p0,p1,p2,p3,p4,p5⟩:=E6.XR;have i1:(m:Int)<n:=ae;have h6:=E6.lt;obtain⟨dc,dp,HB,d9,dS,a5⟩:=FW E6 O hB a2 bb ba;clear E6 O hB HM a2 bb ba hm;go_wp2_with fail;refine(Ju s q.ag bq.ag k HS _).mono ?_;rintro e u⟨rfl,rfl⟩;obtain⟨wq,a6⟩:=Zn (wr.alloc (.cells q.arr 178));obtain⟨gq,bc⟩:=Zn wr.heap.size;have DQ:aE wq gq 178 q.arr:=a6▸bc▸heap_alloc_new _ _;have BQ:=Zw a6;rw[show(wr.alloc (.cells #[Iz q.ag,Iz q.aw,Iz (q.i0:Int),Iz ((q.k0:Int)+1),Iz (q.i1:Int),Iz ((q.k1:Int)+1)] 178))=wq from a6.symm,<-bc];have D6:=dc.h.below BQ;have D4:=dp.h.below BQ;have Bq:=HB.h.trans (BQ.mono HB.size);obtain⟨ea,q1,q2,q3,q4,q5⟩:=DQ.XR;obtain⟨z0,z1,z2,z3,z4,z5⟩:=D6.XR;obtain⟨y0,y1,y2,y3,y4,y5⟩:=D6.oD;have ax:(l.take (m+1)).foldl (Fj k) q0=if bz k q.ag bq.ag=true then q else bq:=dS;have bf:=NJ D6 rfl q;have D:=D4.block (PA (g:=g6) q cf);have I:=CA q cS Bq;unfold Py at bf D I;obtain⟨z,ez⟩:=Zn (bz k q.ag bq.ag);rw[<-ez] at ax⊢;obtain⟨H6,H4,dT,cn,d6,bh,bp⟩:=yY D6 D4 Bq ax bf D I;clear a6 bc DQ BQ D6 D4 Bq ax bf D I ez c0 c1 c2 c3 c4 c5 p0 p1 p2 p3 p4 p5 h6
   cases z
   ·go_wp2_with fail
    go_roundw
    case rel=>
     refine⟨m+1,cA a5.h,by go_num,ao ⟨?_,H4,dT⟩⟩;rw[cn.h,if_neg bT];exact H6
    case measure=>have:=a5.h;simp[intOf];omega
   ·go_wp2_with fail
    go_roundw
    case rel=>
     refine⟨m+1,cA a5.h,by go_num,ao ⟨?_,bh,bp⟩⟩;rw[cn.h,if_pos trivial];exact d6
    case measure=>have:=a5.h;simp[intOf];omega
  ·obtain rfl:m=n:=ae
   rw[<-cm.h,dE] at E6;obtain⟨r,er⟩:=Zn (l.foldl (Fj k) q0);rw[<-er] at E6;obtain⟨p0,p1,p2,p3,p4,p5⟩:=E6.XR;have z0:=O.cell 0;have z1:=O.cell 1;have z2:=O.cell 2;have z3:=O.cell 3;have z4:=O.cell 4;have z5:=O.cell 5;obtain⟨y0,y1,y2,y3,y4,y5⟩:=O.oD;have D:=NJ O rfl r;have I:=CA r cT hB;obtain⟨bh,bp,ER⟩:=fY D I er;clear D I E6 O hB HM er;go_wp2_with fail
   (try simp only[Exit.inBlock,Exit.then])
   obtain⟨wf,bt⟩:=Zn (Py wr g4 r);have hw:=bh.h;have ct:=bp.h;rw[<-bt] at hw ct;unfold Py at bt;refine iv bt ?_;obtain⟨r0,r1,r2,r3,r4,r5⟩:=hw.XR;clear z0 z1 z2 z3 z4 z5 y0 y1 y2 y3 y4 y5 p0 p1 p2 p3 p4 p5;refine bodyPost_ret (v:= .tuple #[r.val, .bool true]) (by simp[results,Tryz.results100,go_sem,r0,r1,r2,r3,r4,r5,Qt.val,Qt.arr];try rfl) rfl ?_;rw[<-EL.h,<-ER.h];exact⟨rfl,ct⟩
end Go.Proofs.YtbaaheidifacaaaGreat
