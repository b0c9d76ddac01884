import Derived.Test.YtbaaheidifacaaaGreatQPro
import Derived.Test.YtbaaheidifacaaaGreatQBook
set_option linter.defProp false
set_option linter.unusedVariables false
set_option linter.unusedSimpArgs false
set_option maxRecDepth 100000
set_option maxHeartbeats 12800000
namespace Go.Proofs.YtbaaheidifacaaaGreat
variable {A:Option Addr} {C C1 C2:dK} {G:Prop} {L M sp:List Nat} {Ls Ls2:List (List Nat)} {X:qd} {b c i j k m n q:Nat} {e x:dn} {aK ent' ent1:Nat→dn} {f:Int→Option Value} {has tp:Bool} {id p top:Int} {l l0 l1:List (Int×Nat)} {ok:Nat→Prop} {r:Int×Nat} {rq':Option Nat} {v v':Nat→List dn} {w w':World} {xs:List Value}
open Go.RowKit
theorem Tryz.Ub:(Tryz.prog.info? 81).map (fun i=>(i.zero,i.size,i.bytes))=some (some (.agg #[Iz 0,Iz 0,Iz 0,Iz 0, .bool false]),5,40):=by kernel_rfl
theorem Xu:kA Tryz.prog 236 81 (.agg #[Iz 0,Iz 0,Iz 0,Iz 0, .bool false]) 5 40:=
 ⟨Tryz.underlying236,let ⟨i,h,D,I,J⟩:=info_parts Tryz.Ub;⟨i,h,D,I,J⟩,rfl,ae,ae⟩
def kB (side p:Int) (e:dn):Ord:=⟨e.id,side,p,e.aw,e.top⟩
theorem Ik (b:Nat) (C:dK) (Ls:List (List Nat)) (aK:Nat->dn) (side p:Int) (n:Nat) (L:List Nat) (w:World) (h:bS w b C) (R:fB C.X Ls aK) (hL:Ls[n]?=some L):
  Wz 165 #[Pz b,Iz side, .agg #[Iz p,Iz (n:Int)]] w fun e w'=> ∃A c,e= .returned (.slice A L.length c)/\w'.ownsRow w.heap.size 81 5 (.slice A L.length c) L.length (flat (L.map fun i=>kB side p (aK i)))/\Bz w w':=by
 obtain⟨w0,a0⟩:=Zn (w.alloc (.cells #[Iz p,Iz (n:Int)] 227));obtain⟨g,eg⟩:=Zn w.heap.size;have B0:=Zw a0;have D:=Zq a0 eg;have h0:=h.below B0;have bf:=D.lt;have bh:=h0.D.lt;have l0:∀u,aR w0.drew u->Cz u b 0 (Pz C.a):=fun u hu=>Yb hu bh (h0.D.cell 0);have l2:∀u,aR w0.drew u->Cz u g 1 (Iz (n:Int)):=fun u hu=>Yb hu bf (D.cell 1);have bp:L.length<=4096:=jE (R.len hL) h.ar.Vr.1;obtain⟨N,eN⟩:=Zn L.length;obtain⟨H0,HR,HL,HD,EN⟩:=rU h0 R hL D eN;rw[<-eN] at bp⊢;clear h h0 R hL D eN
 go_enter Tryz.func165,Tryz.ntmps165
 go_upto_region 2 with(fail)
 rw[<-a0,<-eg];clear a0 eg;refine Zg [6] [0,1,2,3,4,5,8,6,7] ?_;refine Yt ?_;clear l0 l2;refine Ym fun K hK=>?_;refine(Ow C.a C.gs C.rq C.X Ls aK n L _ H0.ar.drew HR HL).mono ?_;rintro e w1⟨A1,c1,rfl,J,b1⟩;rw[<-EN.h] at J⊢;refine Yo hK (b1) ?_;have B1:Bz w w1:=dW (aS B0) b1;have D1:=HD.h.drew.below b1;have ba:=ao J;clear J b1 B0;refine Yt ?_;refine aT ?_;go_wp2_with fail
 go_loopw [7,18] (fun v i wr=> ∃(j:Nat) (A:Option Addr) (c:Nat),j<=N/\v= .slice A j c/\i= Iz (j:Int)/\Hid (wr.ownsRow w1.heap.size 81 5 (.slice A j c) j (flat ((L.take j).map fun i=>kB side p (aK i))))/\Bz w1 wr) (fun _ i _=>N - (intOf i).toNat)
 case atStart=>exact⟨0,none,0,aB _,rfl,rfl,by exact aM _ _ _ _,aa _ _⟩
 case round=>
  obtain⟨j,A,c,hj,rfl,rfl,a2,Bw⟩:=hrel
  by_cases bb:j<N
  ·obtain⟨i,hi⟩:∃i,L[j]?=some i:=⟨L[j]'(EN.h▸bb),aj _⟩
   have I:=bP ba Bw;obtain⟨gr,hg,_,_⟩:=kz I ae;rw[hg] at I;have key:∀(t:Nat) (v:Value),t<4->(TX i (aK i))[t]?=some v->Cz wr gr (j*4+t) v:=fun t v ht hv=>dI I ((ig (f:=fun i=>TX i (aK i)) (k:=4) (fun _=>rfl) t ht hi).trans hv);have r0:=key 0 _ ae rfl;have r1:=key 1 _ ae rfl;have r2:=key 2 _ ae rfl;have r3:=key 3 _ ae rfl;rw[lO] at r0;obtain⟨x1,e1⟩:=Zn ((aK i).id);obtain⟨x2,e2⟩:=Zn ((aK i).aw);obtain⟨x3,e3⟩:=Zn ((aK i).top);rw[<-e1] at r1;rw[<-e2] at r2;rw[<-e3] at r3;have O:flat ((L.take (j+1)).map fun i=>kB side p (aK i))=flat ((L.take j).map fun i=>kB side p (aK i))++[Value.int .i64 x1,Iz side,Iz p,Iz x2, .bool x3]:=by
    rw[dN hi,e1,e2,e3];simp[flat,Ord.cells,kB]
   obtain⟨wA,ax⟩:=Zn (wr.alloc (.cells #[Iz (i:Int),Iz x1,Iz x2, .bool x3] 202));obtain⟨gA,a8⟩:=Zn wr.heap.size;have DA:=Zq ax a8;have BA:=Zw ax;have a5:=dW Bw BA;have bc:=D1.below a5;have bt:Hid (wA.ownsRow w1.heap.size 81 5 (.slice A j c) j (flat ((L.take j).map fun i=>kB side p (aK i)))):=ao (ax▸a2.alloc _);have i1:(j:Int)<N:=ae;have bR:IntKind.i64.wrap ((j:Int)+1)=(j:Int)+1:=aN _ ae;have bE:=ao O;rw[hg];clear hi O I hg key a2 Bw BA e1 e2 e3
   go_upto_region 5 with(fail)
   rw[<-ax,<-a8];clear ax a8 r0 r1 r2 r3;have z1:=DA.cell 1;have z2:=DA.cell 2;have z3:=DA.cell 3;have y0:=bc.cell 0;have a6:=bt.h
   go_wp2_with (at_builtin
                refine dO Xu a6 #[Iz x1,Iz side,Iz p,Iz x2, .bool x3] rfl _ _ rfl rfl rfl rfl (by intro u hu;simp at hu;rcases hu with rfl|rfl|rfl|rfl|rfl<;>rfl) ae a5.size ?_;intro A3 c3 w3 a7 g3 b3 l3;have B3:=b3 _ _ (af _) a5)
   have bH:Hid (w3.ownsRow w1.heap.size 81 5 (.slice A3 (j+1) c3) (j+1) (flat ((L.take (j+1)).map fun i=>kB side p (aK i)))):=ao (bE.h▸a7);clear a6 a7 g3 b3 l3 a5 z1 z2 z3 y0 DA bc
   (try go_wp2_with fail)
   go_roundw
   case rel=>exact⟨j+1,A3,c3,ae,rfl,by go_num,bH,B3⟩
   case measure=>simp[intOf];omega
  ·have bQ:j=N:=ae
   have i1:¬(j:Int)<N:=ae;subst bQ;have ay:=a2.h;rw[aL (EN.h▸af _)] at ay;have HF:=ao (ch ay B1.size);clear a2 ay bb;go_wp2_with fail;go_ret;exact⟨A,c,rfl,HF,dW B1 Bw⟩
namespace Ka
abbrev Bh {α:Type} [OfNat α (nat_lit 0)]:α:=OfNat.ofNat (nat_lit 0)
abbrev Il:=@xv
abbrev Im:=@sD
abbrev tT {α:Type} [OfNat α (nat_lit 1)]:α:=OfNat.ofNat (nat_lit 1)
abbrev nc:=@dK.s0
abbrev Bi:=@bS.o0
end Ka
theorem YI {p:Prop} (h:p:=by (try dsimp only [Bh,tT,nc,Bi] at *);omega):p:=h
theorem Xv (z:G:=by
 obtain⟨F,I⟩:=Zn (cj Bh (nc C).l p);have hh:jx (nc C).l F p=true:=by unfold jx;rw[I,hr];simp
 have J:F<(nc C).l.length:=by rw[I];exact aO hr
 obtain⟨HF,HH,HR,H,O,HL⟩:=FW I hh hr h R hL;clear I hh hr R hL
 go_enter Tryz.func141,Tryz.ntmps141
 go_wp2_with fail;refine(Il _).mono ?_;rintro e w1⟨rfl,rfl⟩;go_wp2_with fail;refine(Im b C p w h).mono ?_;rw[<-HF.h,HH.h];rintro e w1⟨rfl,b1⟩;have H1:=h.below b1;have c1:w1.cell? ⟨b,tT,none⟩=some (.slice (nc C).A (nc C).l.length (nc C).c):=H1.D.cell tT;obtain⟨g,hA,r0,r1⟩:=qC (Bi H1) (i:=F) (r:=(p,n)) (by rw[HF.h];exact HR.h);rw[hA] at c1;simp only at r0 r1;obtain⟨N,eN⟩:=Zn (nc C).l.length;rw[<-eN] at c1 J;have i1:(F:Int)<N:=YI;have ax:=ao H1;clear h H1 eN hA;go_wp2_with fail;refine(Ik b C Ls aK tT p n L w1 ax.h O.h HL.h).mono ?_;rintro e w2⟨A,c,rfl,own,b2⟩;have HO:=ao own;clear c1 r0 r1 own;go_wp2_with fail;go_ret;exact⟨A,c,rfl,ch HO.h b1.size,dW b1 b2⟩
 ):G:=z
open Ka in
theorem Rj (b:Nat) (C:dK) (Ls:List (List Nat)) (aK:Nat->dn) (p:Int) (n:Nat) (L:List Nat) (w:World) (h:bS w b C) (R:fB C.X Ls aK) (hL:Ls[n]?=some L) (hr:C.s0.l[cj 0 C.s0.l p]?=some (p,n)):
  Wz 141 #[Pz b,Iz 1,Iz p] w fun e w'=> ∃A c,e= .returned (.slice A L.length c)/\w'.ownsRow w.heap.size 81 5 (.slice A L.length c) L.length (flat (L.map fun i=>kB 1 p (aK i)))/\Bz w w':=Xv
namespace Kb
abbrev Bh {α:Type} [OfNat α (nat_lit 1)]:α:=OfNat.ofNat (nat_lit 1)
abbrev Il:=@xw
abbrev Im:=@sF
abbrev tT {α:Type} [OfNat α (nat_lit 2)]:α:=OfNat.ofNat (nat_lit 2)
abbrev nc:=@dK.s1
abbrev Bi:=@bS.o1
end Kb
open Kb in
theorem Rk (b:Nat) (C:dK) (Ls:List (List Nat)) (aK:Nat->dn) (p:Int) (n:Nat) (L:List Nat) (w:World) (h:bS w b C) (R:fB C.X Ls aK) (hL:Ls[n]?=some L) (hr:C.s1.l[cj 1 C.s1.l p]?=some (p,n)):
  Wz 141 #[Pz b,Iz 2,Iz p] w fun e w'=> ∃A c,e= .returned (.slice A L.length c)/\w'.ownsRow w.heap.size 81 5 (.slice A L.length c) L.length (flat (L.map fun i=>kB 2 p (aK i)))/\Bz w w':=Xv
def cR (side p:Int) (i:Nat):Value:= .agg #[Iz side,Iz p,Iz (i:Int)]
theorem Tryz.OH (w:World):(zeroValue 199).run Tryz.prog w= .ok (.agg #[Iz 0,Iz 0,Iz 0]) w:=by kernel_rfl
theorem sG (h:fR w b f n) (D:dZ id):
  (Instr.lookup 191 (.map (some b)) (Iz id) true).run Tryz.prog w= .ok (.tuple #[(f id).getD (.agg #[Iz 0,Iz 0,Iz 0]), .bool (f id).isSome]) w:=
 h.look_ok Tryz.underlying191 (Tryz.OH w) D
def dK.Bj (C:dK) (id:Int):dK:={C with s0:={C.s0 with top:=id,has:=true}}
namespace Ka
abbrev iX {α:Type} [OfNat α (nat_lit 4)]:α:=OfNat.ofNat (nat_lit 4)
abbrev iY {α:Type} [OfNat α (nat_lit 7)]:α:=OfNat.ofNat (nat_lit 7)
end Ka
theorem Xw (z:G:=by
 have I:∀k,k≠b->((w.setCell ⟨b,iX,none⟩ (Iz id)).setCell ⟨b,iY,none⟩ (.bool true)).heap[k]?=w.heap[k]?:=fun k J=>(av _ _ _ _ J).trans (av _ _ _ _ J);obtain⟨n1,n2,O,n4,n5⟩:=h.apart;exact⟨(h.D.set iX _).set iY _,h.ar.same fun k J=>I k (n1 k J),aX h.o0 fun g hg=>I g (n2 g hg),aX h.o1 fun g hg=>I g (O g hg),h.ne,h.mp.block (I _ n4),aX h.op fun g hg=>I g (n5 g hg),h.small⟩
 ):G:=z
open Ka in
theorem bS.Bj (h:bS w b C) (id:Int):bS ((w.setCell ⟨b,4,none⟩ (Iz id)).setCell ⟨b,7,none⟩ (.bool true)) b (C.Bj id):=Xw
def dK.Bk (C:dK) (id:Int):dK:={C with s1:={C.s1 with top:=id,has:=true}}
namespace Kb
abbrev iX {α:Type} [OfNat α (nat_lit 5)]:α:=OfNat.ofNat (nat_lit 5)
abbrev iY {α:Type} [OfNat α (nat_lit 8)]:α:=OfNat.ofNat (nat_lit 8)
end Kb
open Kb in
theorem bS.Bk (h:bS w b C) (id:Int):bS ((w.setCell ⟨b,5,none⟩ (Iz id)).setCell ⟨b,8,none⟩ (.bool true)) b (C.Bk id):=Xw
theorem fo (w:World) (o:Obj):Below w.heap.size w.drew (w.alloc o).drew:=iV (aa _ w.drew) (af _) o
theorem Gd (w:World) (o D:Obj):Below w.heap.size (w.alloc o).drew (w.alloc D).drew:=
 ⟨rfl,rfl,rfl,by show(w.alloc o).heap.size<=(w.alloc D).heap.size;simp,fun k I=>(du w D k I).trans (du w o k I).symm⟩
theorem zU (b:Nat) (C:dK):ik b C b:= .inl rfl
namespace Ka
abbrev pM:=@dK.s0
abbrev tU:=@bS.Bj
end Ka
theorem Xx {p:Prop} (h:p:=by (try dsimp only [iX,iY,pM,tU] at *);omega):p:=h
theorem Xy (z:G:=by
 have cH:w.cell? ⟨b,iY,none⟩=some (.bool false):=by rw[<-hh];exact h.D.cell iY
 have cT:w.cell? ⟨b,iX,none⟩=some (Iz (pM C).top):=h.D.cell iX;have fH:=h.D.frozen iY;have fT:=h.D.frozen iX;have J:IntKind.i64.wrap 0=0:=aN _ Xx;have O:IntKind.i64.wrap 1=1:=aN _ Xx;have fin:=tU h id;have I:=ao fin;clear fin h hh
 go_enter Tryz.func173,Tryz.ntmps173
 go_wp2_with fail;refine Zb 0 14 [10,14] [0,1,2,3,4,5,6,7,8,9,11,12,10,13,14] ?_;refine Yt ?_;refine Ym fun K hK=>?_;refine Yo hK (mf (aa 0 _) (aB _) _) ?_;refine Yt ?_;refine Zl fun K hK=>?_;go_simp;refine Yl hK ?_;refine aT ?_;go_wp2_with fail
 go_end0
 exact⟨rfl,I.h.drew,(((Lv.refl _ w).setCell (p:=⟨b,iX,none⟩) (zU b C) _).setCell (p:=⟨b,iY,none⟩) (zU b C) _).drew⟩
 ):G:=z
open Ka in
theorem Io (b:Nat) (C:dK) (id:Int) (w:World) (h:bS w b C) (hh:C.s0.has=false):
  Wz 173 #[Pz b,Iz id,Iz 1] w fun e w'=>e= .returned (.tuple #[])/\bS w' b (C.Bj id)/\Lv (ik b C) w w':=Xy
def dK.xz (C:dK) (X:qd):dK:={C with X:=X}
theorem Xz (z:G:=by
 obtain⟨n1,n2,n3,n4,n5⟩:=h.apart;have hA:=h.ar.types;have J:∀k cur T,w.heap[k]?=some (.cells cur T (0,0))->T≠244->T≠253->T≠273->¬qA C.a C.gs C.rq k:=by
  intro k cur T hk t1 t2 t3 hf;obtain⟨O,T',I,hT⟩:=hA k hf;rw[hk] at I;injection I with I;injection I with _ ht;subst ht;rcases hT with rfl|rfl|rfl
  ·exact t1 rfl
  ·exact t2 rfl
  ·exact t3 rfl
 have keep:∀k,k<w.heap.size->¬qA C.a C.gs C.rq k->w'.heap[k]?=w.heap[k]?:=L.block;refine⟨h.D.lv L (J _ _ _ h.D (by decide) (by decide) (by decide)),hX,aX h.o0 fun g hg=>?_,aX h.o1 fun g hg=>?_,h.ne,h.mp.lv L ?_,aX h.op fun g hg=>?_,h.small⟩
 ·obtain⟨cur,hb⟩:=bY h.o0 hg
  exact keep g (h.o0.lt g hg).2 (J _ _ _ hb (by decide) (by decide) (by decide))
 ·obtain⟨cur,hb⟩:=bY h.o1 hg
  exact keep g (h.o1.lt g hg).2 (J _ _ _ hb (by decide) (by decide) (by decide))
 ·intro hf
  obtain⟨O,T',I,hT⟩:=hA _ hf;obtain⟨D,⟨es,clock,hm,_⟩,_⟩:=h.mp;rw[hm] at I
  cases I
 ·obtain⟨cur,hb⟩:=bY h.op hg
  exact keep g (h.op.lt g hg).2 (J _ _ _ hb (by decide) (by decide) (by decide))
 ):G:=z
open Ka in
theorem bS.xz (h:bS w b C) (hX:cY w' C.a C.gs C.rq X) (L:Lv (qA C.a C.gs C.rq) w w'):bS w' b (C.xz X):=Xz
namespace Ka
abbrev tV {α:Type} [OfNat α (nat_lit 1)]:α:=OfNat.ofNat (nat_lit 1)
abbrev Bl:=@bS.xz
end Ka
theorem XB {p:Prop} (h:p:=by (try dsimp only [iX,iY,pM,tU,tV,Bl] at *);omega):p:=h
theorem XC (z:G:=by
 have cH:w.cell? ⟨b,iY,none⟩=some (.bool true):=by rw[<-hh];exact h.D.cell iY
 have a5:=h.D.lt;have a7:IntKind.i64.wrap 0=0:=aN _ XB;have a8:IntKind.i64.wrap 1=1:=aN _ XB;obtain⟨tp,O⟩:=Zn (pM C).top;rw[<-O] at hid hf;have l0:∀u,Below w.heap.size w.drew u->u.cell? ⟨b,3,none⟩=some (.map (some C.mb)):=fun u hu=>Yb hu a5 (h.D.cell 3);have l1:∀u,Below w.heap.size w.drew u->u.cell? ⟨b,iX,none⟩=some (Iz tp):=fun u hu=>Yb hu a5 (by rw[O];exact h.D.cell iX);have l2:∀u,Below w.heap.size w.drew u->(Instr.lookup 191 (.map (some C.mb)) (Iz tp) true).run Tryz.prog u= .ok (.tuple #[.agg #[Iz tV,Iz p,Iz (i:Int)], .bool true]) u:=fun u hu=>by
  have hm:fR w.drew C.mb C.f C.n:=h.mp.block rfl;have:=sG (hm.below hu) hid;rw[hf] at this;exact this
 obtain⟨I,J⟩:=Zn (w.drew.alloc (.cells #[Iz tV,Iz p,Iz (i:Int)] 199));obtain⟨gA,ax⟩:=Zn w.heap.size;have DA:=Zq J ax;have BA:Bz w I:=by rw[J];exact(aS (aa _ w)).alloc (af _) _
 have hA:=h.below BA;obtain⟨HA,HS,HU⟩:=fY hA hs hu;clear h hh hf hs hu O hA
 go_enter Tryz.func173,Tryz.ntmps173
 go_wp2_with fail;refine Zb w.heap.size 99999 [15,16] [0,1,2,3,4,5,6,7,8,9,10,11,12,13,14,15,16,17] ?_;refine Yt ?_;clear l0 l1 l2 cH;refine Ym fun K hK=>?_;refine Yo hK (fo w _) ?_;refine Ym fun K hK=>?_;refine Yo hK (Gd w _ _) ?_;refine Yt ?_;refine aT ?_;rw[show(w.alloc (.cells #[Iz tV,Iz p,Iz (i:Int)] 199)).drew=I from J.symm,<-ax];clear J ax;have z0:=DA.cell 0;have z2:=DA.cell 2;have a0:∀u,Below I.heap.size I.drew u->u.cell? ⟨b,0,none⟩=some (Pz C.a):=fun u hu=>Yb hu HA.h.D.lt (HA.h.D.cell 0);have a2:∀u,Below I.heap.size I.drew u->u.cell? ⟨gA,2,none⟩=some (Iz (i:Int)):=fun u hu=>Yb hu DA.lt (DA.cell 2);go_wp2_with fail;refine Zb I.heap.size 6 [6] [0,1,2,3,4,5,6] ?_;refine Yt ?_;clear a0 a2 z0 z2;refine Zl fun K hK=>?_;go_simp;refine(Q5 C.a C.gs C.rq C.X i s false _ HA.h.ar.drew HS.h HU.h).mono ?_;rintro e w1⟨rfl,hX,LX⟩;have ay:Lv (qA C.a C.gs C.rq) I w1:=Lv.then (Lv.refl _ I).drew LX;have H1:=Bl HA.h hX ay;have L1:Lv (ik b C) w w1:=Lv.iD BA (ay.mono fun k hk=> .inl (.inr (.inl hk)));refine Yl hK ?_;refine aT ?_;have cT:w1.cell? ⟨b,iX,none⟩=some (Iz (pM C).top):=H1.D.cell iX;have cH:w1.cell? ⟨b,iY,none⟩=some (.bool (pM C).has):=H1.D.cell iY;have fH:=H1.D.frozen iY;have fT:=H1.D.frozen iX;have fin:=tU H1 id;have a6:=ao fin;clear fin H1 hX LX ay DA;go_wp2_with fail;refine Zb 0 14 [10,14] [0,1,2,3,4,5,6,7,8,9,11,12,10,13,14] ?_;refine Yt ?_;refine Ym fun K hK=>?_;refine Yo hK (mf (aa 0 _) (aB _) _) ?_;refine Yt ?_;refine Zl fun K hK=>?_;go_simp;refine Yl hK ?_;refine aT ?_;go_wp2_with fail
 go_end0
 exact⟨rfl,a6.h.drew,((L1.setCell (p:=⟨b,iX,none⟩) (zU b C) _).setCell (p:=⟨b,iY,none⟩) (zU b C) _).drew⟩
 ):G:=z
open Ka in
theorem Ip (b:Nat) (C:dK) (id p:Int) (i:Nat) (s:cU) (w:World) (h:bS w b C) (hh:C.s0.has=true) (hid:dZ C.s0.top) (hf:C.f C.s0.top=some (cR 1 p i)) (hs:C.X.slots[i]?=some s) (hu:s.used=true):
  Wz 173 #[Pz b,Iz id,Iz 1] w fun e w'=>e= .returned (.tuple #[])/\bS w' b ((C.xz ⟨C.X.slots.set i {s with top:=false},C.X.H,C.X.free⟩).Bj id)/\Lv (ik b C) w w':=XC
namespace Kb
abbrev pM:=@dK.s1
abbrev tU:=@bS.Bk
end Kb
open Kb in
theorem Iq (b:Nat) (C:dK) (id:Int) (w:World) (h:bS w b C) (hh:C.s1.has=false):
  Wz 173 #[Pz b,Iz id,Iz 2] w fun e w'=>e= .returned (.tuple #[])/\bS w' b (C.Bk id)/\Lv (ik b C) w w':=Xy
def dK.xA (C:dK) (X:qd):dK:={C with X:=X}
open Kb in
theorem bS.xA (h:bS w b C) (hX:cY w' C.a C.gs C.rq X) (L:Lv (qA C.a C.gs C.rq) w w'):bS w' b (C.xA X):=Xz
namespace Kb
abbrev tV {α:Type} [OfNat α (nat_lit 2)]:α:=OfNat.ofNat (nat_lit 2)
abbrev Bl:=@bS.xA
end Kb
open Kb in
theorem Ir (b:Nat) (C:dK) (id p:Int) (i:Nat) (s:cU) (w:World) (h:bS w b C) (hh:C.s1.has=true) (hid:dZ C.s1.top) (hf:C.f C.s1.top=some (cR 2 p i)) (hs:C.X.slots[i]?=some s) (hu:s.used=true):
  Wz 173 #[Pz b,Iz id,Iz 2] w fun e w'=>e= .returned (.tuple #[])/\bS w' b ((C.xA ⟨C.X.slots.set i {s with top:=false},C.X.H,C.X.free⟩).Bk id)/\Lv (ik b C) w w':=XC
def dK.DB (C:dK) (A:Option Addr) (c:Nat) (l:List (Int×Nat)):dK:={C with s0:={C.s0 with A:=A,c:=c,l:=l}}
theorem bS.DB (h:bS w b C) (hn:l.length=n) (own:w'.ownsRow 0 227 2 (.slice A n c) n (cB l)) (L:Lv (fun k=>some k=C.s0.v.ownBlock) w w')
  (jV:(Value.slice A n c).ownBlock=C.s0.v.ownBlock\/∃g,(Value.slice A n c).ownBlock=some g/\w.heap.size<=g) (hl:n<=100000):
  bS (w'.setCell ⟨b,1,none⟩ (.slice A n c)) b (C.DB A c l)/\(∀k,ik b (C.DB A c l) k->ik b C k\/w.heap.size<=k)/\Lv (ik b C) w (w'.setCell ⟨b,1,none⟩ (.slice A n c)):=by
 subst hn;obtain⟨n1,n2,n3,n4,n5⟩:=h.apart;have hF:∀{k:Nat} {cur:Array Value} {T:TypeId},w.heap[k]?=some (.cells cur T (0,0))->T≠227->¬some k=C.s0.v.ownBlock:=by
  intro k cur T O hT hs;obtain⟨ba,hb⟩:=bY h.o0 hs.symm;rw[O] at hb;injection hb with hb;injection hb with _ ht;exact hT ht
 have keep:∀{k:Nat},k<w.heap.size->¬some k=C.s0.v.ownBlock->k≠b->(w'.setCell ⟨b,1,none⟩ (.slice A l.length c)).heap[k]?=w.heap[k]?:=fun O J h2=>(av _ _ _ _ h2).trans (L.block _ O J);have a6:aE w' b 195 C.cells:=h.D.block (L.block b h.D.lt (hF h.D (by decide)));have a0:=a6.set 1 (.slice A l.length c);have a7:∀g,(Value.slice A l.length c).ownBlock=some g->g≠b:=by
  intro g hg;rcases jV with I|⟨g',I,a2⟩
  ·rw[I] at hg;exact n2 g hg
  ·rw[I] at hg;injection hg with hg;have:=h.D.lt;omega
 have a5:(w'.setCell ⟨b,1,none⟩ (.slice A l.length c)).ownsRow 0 227 2 (.slice A l.length c) l.length (cB l):=aX own fun g hg=>av _ _ _ _ (a7 g hg);have QH:(w'.setCell ⟨b,1,none⟩ (.slice A l.length c)).ownsRow 0 227 2 C.s1.v C.s1.l.length (cB C.s1.l):=aX h.o1 fun g hg=>keep (h.o1.lt g hg).2 (fun hs=>by
  first
  |exact h.ne g hs.symm hg
  |exact h.ne g hg hs.symm) (n3 g hg)
 have a8:∀g,C.s1.v.ownBlock=some g->g<w.heap.size:=fun g hg=>(h.o1.lt g hg).2;have ax:∀g,(Value.slice A l.length c).ownBlock=some g->C.s1.v.ownBlock≠some g:=by
  intro g hg ay;rcases jV with I|⟨g',I,a2⟩
  ·rw[I] at hg
   first
   |exact h.ne g hg ay
   |exact h.ne g ay hg
  ·rw[I] at hg
   injection hg with hg;have:=a8 g ay;omega
 refine⟨⟨a0,h.ar.same fun k O=>?_,a5,QH,fun g J h2=>?_,h.mp.block (keep h.mp.lt ?_ n4),aX h.op fun g hg=>?_,?_⟩,fun k O=>?_,?_⟩
 ·obtain⟨cur,T,hb,hT⟩:=h.ar.types k O
  exact keep (h.ar.lt k O) (hF hb (by rcases hT with rfl|rfl|rfl<;>decide)) (n1 k O)
 ·first
  |exact ax g J h2
  |exact ax g h2 J
 ·intro hs
  obtain⟨cur,hb⟩:=bY h.o0 hs.symm;obtain⟨D,⟨es,clock,hm,_⟩,_⟩:=h.mp;rw[hm] at hb
  cases hb
 ·obtain⟨cur,hb⟩:=bY h.op hg
  exact keep (h.op.lt g hg).2 (hF hb (by decide)) (n5 g hg)
 ·have:=h.small
  show _<=100000/\_<=100000/\_<=100000
  first
  |exact⟨hl,this.2.1,this.2.2⟩
  |exact⟨this.1,hl,this.2.2⟩
 ·have key:(Value.slice A l.length c).ownBlock=some k->ik b C k\/w.heap.size<=k:=by
   intro hs;rcases jV with I|⟨g',I,a2⟩
   ·rw[I] at hs
    left
    first
    |exact .inr (.inr (.inl hs))
    |exact .inr (.inr (.inr (.inl hs)))
   ·rw[I] at hs
    injection hs with hs
    right;omega
  rcases O with J|J|J|J|J|J
  ·exact .inl (.inl J)
  ·exact .inl (.inr (.inl J))
  ·first
   |exact key J
   |exact .inl (.inr (.inr (.inl J)))
  ·first
   |exact key J
   |exact .inl (.inr (.inr (.inr (.inl J))))
  ·exact .inl (.inr (.inr (.inr (.inr (.inl J)))))
  ·exact .inl (.inr (.inr (.inr (.inr (.inr J)))))
 ·refine(L.mono fun k O=> .inl ?_).setCell (p:=⟨b,1,none⟩) (.inl rfl) _
  first
  |exact .inr (.inr (.inl O.symm))
  |exact .inr (.inr (.inr (.inl O.symm)))
def dK.DD (C:dK) (A:Option Addr) (c:Nat) (l:List (Int×Nat)):dK:={C with s1:={C.s1 with A:=A,c:=c,l:=l}}
theorem bS.DD (h:bS w b C) (hn:l.length=n) (own:w'.ownsRow 0 227 2 (.slice A n c) n (cB l)) (L:Lv (fun k=>some k=C.s1.v.ownBlock) w w')
  (jV:(Value.slice A n c).ownBlock=C.s1.v.ownBlock\/∃g,(Value.slice A n c).ownBlock=some g/\w.heap.size<=g) (hl:n<=100000):
  bS (w'.setCell ⟨b,2,none⟩ (.slice A n c)) b (C.DD A c l)/\(∀k,ik b (C.DD A c l) k->ik b C k\/w.heap.size<=k)/\Lv (ik b C) w (w'.setCell ⟨b,2,none⟩ (.slice A n c)):=by
 subst hn;obtain⟨n1,n2,n3,n4,n5⟩:=h.apart;have hF:∀{k:Nat} {cur:Array Value} {T:TypeId},w.heap[k]?=some (.cells cur T (0,0))->T≠227->¬some k=C.s1.v.ownBlock:=by
  intro k cur T O hT hs;obtain⟨ba,hb⟩:=bY h.o1 hs.symm;rw[O] at hb;injection hb with hb;injection hb with _ ht;exact hT ht
 have keep:∀{k:Nat},k<w.heap.size->¬some k=C.s1.v.ownBlock->k≠b->(w'.setCell ⟨b,2,none⟩ (.slice A l.length c)).heap[k]?=w.heap[k]?:=fun O J h2=>(av _ _ _ _ h2).trans (L.block _ O J);have a6:aE w' b 195 C.cells:=h.D.block (L.block b h.D.lt (hF h.D (by decide)));have a0:=a6.set 2 (.slice A l.length c);have a7:∀g,(Value.slice A l.length c).ownBlock=some g->g≠b:=by
  intro g hg;rcases jV with I|⟨g',I,a2⟩
  ·rw[I] at hg;exact n3 g hg
  ·rw[I] at hg;injection hg with hg;have:=h.D.lt;omega
 have a5:(w'.setCell ⟨b,2,none⟩ (.slice A l.length c)).ownsRow 0 227 2 (.slice A l.length c) l.length (cB l):=aX own fun g hg=>av _ _ _ _ (a7 g hg);have QH:(w'.setCell ⟨b,2,none⟩ (.slice A l.length c)).ownsRow 0 227 2 C.s0.v C.s0.l.length (cB C.s0.l):=aX h.o0 fun g hg=>keep (h.o0.lt g hg).2 (fun hs=>by
  first
  |exact h.ne g hs.symm hg
  |exact h.ne g hg hs.symm) (n2 g hg)
 have a8:∀g,C.s0.v.ownBlock=some g->g<w.heap.size:=fun g hg=>(h.o0.lt g hg).2;have ax:∀g,(Value.slice A l.length c).ownBlock=some g->C.s0.v.ownBlock≠some g:=by
  intro g hg ay;rcases jV with I|⟨g',I,a2⟩
  ·rw[I] at hg
   first
   |exact h.ne g hg ay
   |exact h.ne g ay hg
  ·rw[I] at hg
   injection hg with hg;have:=a8 g ay;omega
 refine⟨⟨a0,h.ar.same fun k O=>?_,QH,a5,fun g J h2=>?_,h.mp.block (keep h.mp.lt ?_ n4),aX h.op fun g hg=>?_,?_⟩,fun k O=>?_,?_⟩
 ·obtain⟨cur,T,hb,hT⟩:=h.ar.types k O
  exact keep (h.ar.lt k O) (hF hb (by rcases hT with rfl|rfl|rfl<;>decide)) (n1 k O)
 ·first
  |exact ax g J h2
  |exact ax g h2 J
 ·intro hs
  obtain⟨cur,hb⟩:=bY h.o1 hs.symm;obtain⟨D,⟨es,clock,hm,_⟩,_⟩:=h.mp;rw[hm] at hb
  cases hb
 ·obtain⟨cur,hb⟩:=bY h.op hg
  exact keep (h.op.lt g hg).2 (hF hb (by decide)) (n5 g hg)
 ·have:=h.small
  show _<=100000/\_<=100000/\_<=100000
  first
  |exact⟨hl,this.2.1,this.2.2⟩
  |exact⟨this.1,hl,this.2.2⟩
 ·have key:(Value.slice A l.length c).ownBlock=some k->ik b C k\/w.heap.size<=k:=by
   intro hs;rcases jV with I|⟨g',I,a2⟩
   ·rw[I] at hs
    left
    first
    |exact .inr (.inr (.inl hs))
    |exact .inr (.inr (.inr (.inl hs)))
   ·rw[I] at hs
    injection hs with hs
    right;omega
  rcases O with J|J|J|J|J|J
  ·exact .inl (.inl J)
  ·exact .inl (.inr (.inl J))
  ·first
   |exact key J
   |exact .inl (.inr (.inr (.inl J)))
  ·first
   |exact key J
   |exact .inl (.inr (.inr (.inr (.inl J))))
  ·exact .inl (.inr (.inr (.inr (.inr (.inl J)))))
  ·exact .inl (.inr (.inr (.inr (.inr (.inr J)))))
 ·refine(L.mono fun k O=> .inl ?_).setCell (p:=⟨b,2,none⟩) (.inl rfl) _
  first
  |exact .inr (.inr (.inl O.symm))
  |exact .inr (.inr (.inr (.inl O.symm)))
theorem OI {base:Nat} {e:TypeId} {x:Value} (h:w.ownsRow base e 1 (.slice A (n+1) c) (n+1) (xs++[x])):w.ownsRow base e 1 (.slice A n c) n xs:=by
 have hl:xs.length=n:=by have:=h.1;simp at this;omega
 rcases h.2 with⟨D,_⟩|⟨g,cap,cur,hv,I,hg,hn,hm,hs,hx⟩
 ·injection D with _ D;omega
 ·injection hv with J h2 O
  subst J;subst O;refine⟨ae, .inr ⟨g,c,cur,rfl,I,hg,ae,hm,hs,?_⟩⟩;have:(cur.toList.take ((n+1)*1)).take (n*1)=(xs++[x]).take (n*1):=by rw[hx]
  rw[px,rQ ae] at this;rw[<-this]
  congr 1
  omega
theorem bS.Rl (h:bS w b C) (hs:C.spare=sp++[q]) (hn:sp.length=n):
  bS (w.setCell ⟨b,6,none⟩ (.slice C.Ap n C.cp)) b {C with spare:=sp}/\(∀k,ik b {C with spare:=sp} k->ik b C k):=by
 subst hn;obtain⟨n1,n2,n3,n4,n5⟩:=h.apart;have I:∀{k:Nat},k≠b->(w.setCell ⟨b,6,none⟩ (.slice C.Ap sp.length C.cp)).heap[k]?=w.heap[k]?:=fun hk=>av _ _ _ _ hk;have ax:(Value.slice C.Ap sp.length C.cp).ownBlock=(Value.slice C.Ap C.spare.length C.cp).ownBlock:=by cases C.Ap<;>rfl
 have O:=h.op;rw[hs] at O;have ay:w.ownsRow 0 3 1 (.slice C.Ap sp.length C.cp) sp.length (nE sp):=by
  refine OI (x:= Iz (q:Int)) ?_;have e1:(sp++[q]).length=sp.length+1:=bT;rw[e1] at O;simpa[nE] using O
 refine⟨⟨h.D.set 6 _,h.ar.same fun k hk=>I (n1 k hk),aX h.o0 fun g hg=>I (n2 g hg),aX h.o1 fun g hg=>I (n3 g hg),h.ne,h.mp.block (I n4),aX ay fun g hg=>I (n5 g (ax▸hg)),?_⟩,fun k hk=>?_⟩
 ·have:=h.small
  rw[hs] at this;simp at this;exact⟨this.1,this.2.1,by show sp.length<=100000;omega⟩
 ·rcases hk with J|J|J|J|J|J
  ·exact .inl J
  ·exact .inr (.inl J)
  ·exact .inr (.inr (.inl J))
  ·exact .inr (.inr (.inr (.inl J)))
  ·exact .inr (.inr (.inr (.inr (.inl J))))
  ·exact .inr (.inr (.inr (.inr (.inr (ax▸J)))))
theorem bS.opened (h:bS w b C) (hX:cY w' C.a C.gs rq' X) (hr:rq'=C.rq\/∃g,rq'=some g/\w.heap.size<=g) (L:Lv (qA C.a C.gs C.rq) w w'):
  bS w' b {C with rq:=rq',X:=X}/\(∀k,ik b {C with rq:=rq',X:=X} k->ik b C k\/w.heap.size<=k):=by
 obtain⟨n1,n2,n3,n4,n5⟩:=h.apart;have hA:=h.ar.types;have O:∀{k:Nat} {cur:Array Value} {T:TypeId},w.heap[k]?=some (.cells cur T (0,0))->T≠244->T≠253->T≠273->¬qA C.a C.gs C.rq k:=by
  intro k cur T hk t1 t2 t3 hf;obtain⟨ax,T',I,hT⟩:=hA k hf;rw[hk] at I;injection I with I;injection I with _ ht;subst ht;rcases hT with rfl|rfl|rfl
  ·exact t1 rfl
  ·exact t2 rfl
  ·exact t3 rfl
 have keep:∀k,k<w.heap.size->¬qA C.a C.gs C.rq k->w'.heap[k]?=w.heap[k]?:=L.block;refine⟨⟨h.D.lv L (O h.D (by decide) (by decide) (by decide)),hX,aX h.o0 fun g hg=>?_,aX h.o1 fun g hg=>?_,h.ne,h.mp.lv L ?_,aX h.op fun g hg=>?_,h.small⟩,fun k hk=>?_⟩
 ·obtain⟨cur,hb⟩:=bY h.o0 hg
  exact keep g (h.o0.lt g hg).2 (O hb (by decide) (by decide) (by decide))
 ·obtain⟨cur,hb⟩:=bY h.o1 hg
  exact keep g (h.o1.lt g hg).2 (O hb (by decide) (by decide) (by decide))
 ·intro hf
  obtain⟨ax,T',I,hT⟩:=hA _ hf;obtain⟨D,⟨es,clock,hm,_⟩,_⟩:=h.mp;rw[hm] at I
  cases I
 ·obtain⟨cur,hb⟩:=bY h.op hg
  exact keep g (h.op.lt g hg).2 (O hb (by decide) (by decide) (by decide))
 ·rcases hk with J|J|J|J|J|J
  ·exact .inl (.inl J)
  ·rcases J with h2|h2|h2
   ·exact .inl (.inr (.inl (.inl h2)))
   ·exact .inl (.inr (.inl (.inr (.inl h2))))
   ·rcases hr with hr|⟨g,hr,hg⟩
    ·exact .inl (.inr (.inl (.inr (.inr (hr▸h2)))))
    ·right
     have h3:some k=some g:=hr▸h2;injection h3 with h3;omega
  ·exact .inl (.inr (.inr (.inl J)))
  ·exact .inl (.inr (.inr (.inr (.inl J))))
  ·exact .inl (.inr (.inr (.inr (.inr (.inl J)))))
  ·exact .inl (.inr (.inr (.inr (.inr (.inr J)))))
structure OJ (w w':World) (b:Nat) (C C1:dK) (q:Nat) (Ls:List (List Nat)) (aK:Nat→dn):Prop where
 at_:bS w' b C1
 lv:Lv (ik b C) w w'
 fp:∀k,ik b C1 k→ik b C k∨w.heap.size≤k
 how:(∃sp,C.spare=sp++[q]∧C1={C with spare:=sp})∨(C.spare=[]∧q=Ls.length∧∃rq' X',C1={C with rq:=rq',X:=X'}∧fB X' (Ls++[[]]) aK∧X'.free=C.X.free)
structure Rm (w w':World) (b:Nat) (C:dK) (p:Int) (Ls:List (List Nat)) (aK:Nat→dn) (e:Ending):Prop where
 h:∃(q:Nat) (C1:dK) (A:Option Addr) (c:Nat),e= .returned (Iz (q:Int))∧((∃sp,C.spare=sp++[q]∧C1={C with spare:=sp})∨(C.spare=[]∧q=Ls.length∧∃rq' X',C1={C with rq:=rq',X:=X'}∧fB X' (Ls++[[]]) aK∧X'.free=C.X.free))∧
  bS w' b (C1.DB A c (C.s0.l.take (cj 0 C.s0.l p)++(p,q)::C.s0.l.drop (cj 0 C.s0.l p)))∧(∀j,ik b (C1.DB A c (C.s0.l.take (cj 0 C.s0.l p)++(p,q)::C.s0.l.drop (cj 0 C.s0.l p))) j→ik b C j∨w.heap.size≤j)
 lv:Lv (ik b C) w w'
theorem Is (b:Nat) (C:dK) (Ls:List (List Nat)) (aK:Nat->dn) (p:Int) (w:World) (h:bS w b C) (R:fB C.X Ls aK) (hq:C.X.H.length<900000) (b7:C.s0.l.length<100000) (bh:jx C.s0.l (cj 0 C.s0.l p) p=false):
  Wz 175 #[Pz b,Iz 1,Iz p] w fun e w'=>Rm w w' b C p Ls aK e:=by
 obtain⟨F,eF⟩:=Zn (cj 0 C.s0.l p);have a6:F<=C.s0.l.length:=by rw[eF];exact xt _ _ _
 obtain⟨HF,bp,HR⟩:=fY eF bh R;clear eF bh R;have cQ:IntKind.i64.wrap 0=0:=aN _ (by omega);have cT:IntKind.i64.wrap 1=1:=aN _ (by omega)
 go_enter Tryz.func175,Tryz.ntmps175
 go_wp2_with fail;refine(sD b C p w h).mono ?_;rw[<-HF.h] at bp⊢;rw[bp.h];rintro e w1⟨rfl,b1⟩;have H1:=h.below b1;have c6:Cz w1 b 6 (.slice C.Ap C.spare.length C.cp):=H1.D.cell 6;obtain⟨K,eK⟩:=Zn C.spare.length;have hK:=H1.small.2.2;rw[<-eK] at c6 hK;obtain⟨I,HK⟩:=dF H1 eK;clear H1 eK h
 go_upto_if 36 with(fail)
 go_cut [9] (fun v wx=> ∃(q:Nat) (C1:dK),v= Iz (q:Int)/\Hid (OJ w1 wx b C C1 q Ls aK))
 case first=>
  by_cases b8:K=0
  ·subst b8
   have O:C.spare=[]:=aP HK.h.symm;have c0:Cz w1 b 0 (Pz C.a):=I.h.D.cell 0;have b9:=ao O;clear O c6;go_wp2_with fail;refine(Em C.a C.gs C.rq C.X Ls aK w1 I.h.ar HR.h hq).mono ?_;rintro e w2⟨rfl,rq',X',hX,bt, -,bE,hr,hL⟩;obtain⟨k1,k2⟩:=I.h.opened hX hr hL;have hg:Hid (OJ w1 w2 b C {C with rq:=rq',X:=X'} Ls.length Ls aK):=ao ⟨k1,hL.mono fun k hk=> .inl (.inr (.inl hk)),k2, .inr ⟨b9.h,rfl,rq',X',rfl,bt,bE⟩⟩;clear hX bt bE hr hL k1 k2 c0;go_wp2_with fail;go_meet;exact⟨_,_,rfl,hg⟩
  ·obtain⟨n,hn⟩:∃n,K=n+1:=⟨K - 1,by omega⟩
   obtain⟨q,bb⟩:∃q,C.spare[n]?=some q:=⟨C.spare[n]'(by have:=HK.h;omega),aj _⟩;obtain⟨sp,O,a7⟩:∃sp,C.spare=sp++[q]/\sp.length=n:=by
    refine⟨C.spare.take n,?_,by have:=HK.h;simp;omega⟩;have h1:C.spare=C.spare.take (n+1):=(aL (by have:=HK.h;omega)).symm;rw[bC,bb] at h1;exact h1
   have ax:=I.h.op;rw[<-HK.h] at ax;obtain⟨g,hA,_,_⟩:=kz ax (by omega);have bH:=ie ax;rw[hA] at ax c6;have r0:Cz w1 g n (Iz (q:Int)):=dI ax (by unfold nE;rw[bo,bb];rfl);have f6:=I.h.D.frozen 6;obtain⟨k1,k2⟩:=I.h.Rl O a7;have bQ:bS (w1.setCell ⟨b,6,none⟩ (.slice (some ⟨g,0,none⟩) n C.cp)) b {C with spare:=sp}:=by rw[<-hA];exact k1
   have cX:IntKind.i64.wrap ((K:Int) - 1)=(n:Int):=by rw[aN _ (by omega)];omega
   have dc:n<K:=by omega
   have dp:n<=C.cp:=by omega
   have dS:(0:Int)<K:=by omega
   have dT:((K:Int)==0)=false:=by simp;omega
   have hg:Hid (OJ w1 ((w1.setCell ⟨b,6,none⟩ (.slice (some ⟨g,0,none⟩) n C.cp)).drew) b C {C with spare:=sp} q Ls aK):=
    ao ⟨bQ.drew,((Lv.refl _ w1).setCell (p:=⟨b,6,none⟩) (.inl rfl) _).drew,fun k hk=> .inl (k2 k hk), .inl ⟨sp,O,rfl⟩⟩
   have HN:=ao hn;clear hn bb O a7 ax hA k1 bQ k2 bH;go_wp2_with fail
   go_still_tail 19,(by kernel_rfl)
   go_wp2_with fail;go_meet;exact⟨_,_,rfl,hg⟩
 obtain⟨q,C1,rfl,HG⟩:=hcut;clear c6;have G:=HG.h;have ay:C1.s0=C.s0:=by
  rcases G.how with⟨sp,_,h1⟩|⟨_,_,rq',X',h1,_⟩<;>rw[h1]
 obtain⟨N,eN⟩:=Zn C.s0.l.length;have cS:Cz wc b 1 (.slice C.s0.A N C.s0.c):=by rw[eN,<-ay];exact G.at_.D.cell 1
 have l2:∀u,mV b wc.drew u->Cz u b 1 (.slice C.s0.A N C.s0.c):=fun u hu=>Yd hu cS;obtain⟨wA,a0⟩:=Zn ((wc.alloc (.cells #[Iz p,Iz (q:Int)] 227)).drew);obtain⟨gA,bc⟩:=Zn wc.heap.size;have DA:aE wA gA 227 #[Iz p,Iz (q:Int)]:=by rw[a0,bc];exact(aE.new wc _ _).drew
 have BA:Bz wc wA:=by rw[a0];exact((aa _ wc).alloc (af _) _).drew
 have AT:=G.at_.below BA;have a8:wA.ownsRow 0 227 2 (.slice C.s0.A N C.s0.c) N (cB C.s0.l):=by rw[eN,<-ay];exact AT.o0
 have cd:b<wA.heap.size:=AT.D.lt;have cf:b<wc.heap.size:=G.at_.D.lt;have bR:∀g,(Value.slice C.s0.A N C.s0.c).ownBlock=some g->g≠b:=fun g hg=>by
  have:=AT.apart;have h2:C1.s0.v.ownBlock=some g:=by rw[ay];unfold jX.v;rw[<-eN];exact hg
  first
  |exact this.2.1 g h2
  |exact this.2.2.1 g h2
 have bU:∀g,(Value.slice C.s0.A N C.s0.c).ownBlock=some g->gA≠g:=fun g hg=>by
  have h2:C1.s0.v.ownBlock=some g:=by rw[ay];unfold jX.v;rw[<-eN];exact hg
  have:=(G.at_.o0.lt g h2).2;omega
 obtain⟨bf,bV,EN,b0,ck,cl,cm,cn⟩:=Dw AT ay eN a8 bR bU DA BA;rw[<-eN] at a6 b7;have ct:N<=1000000:=by omega
 clear G AT ay eN a8 bR bU DA BA cS;go_wp2_with fail;refine bx (R:=mV b) 19 [14,15,19] [0,1,2,3,4,5,6,7,8,9,10,11,12,13,16,17,14,15,18,19] (by kernel_rfl) (mV.tr b) (mV.J b) (by kernel_rfl) (fun _ _ _ _ _ h=>h) ?_;refine Yt ?_;clear l2;refine Ym fun K hK=>?_;rw[show(wc.alloc (.cells #[Iz p,Iz (q:Int)] 227)).drew=wA from a0.symm,<-bc];refine Yo hK ((by rw[a0];exact du wc _ b cf:mV b wc.drew wA)) ?_;clear a0 bc;refine Ym fun K hK=>?_;refine(Ig C.s0.A C.s0.c C.s0.l N F gA p q wA b0.h EN.h.symm ct a6 cm.h cl.h).mono ?_;rintro e w5⟨A5,c5,rfl,ba,a2,L5⟩;have a5:mV b wA w5:=L5.block b cd (fun hs=>ck.h b hs.symm rfl);refine Yo hK (a5) ?_;have cv:=bf.h.DB (w':=w5) (A:=A5) (c:=c5) (n:=N+1) (l:=C.s0.l.take F++(p,q)::C.s0.l.drop F) (by have:=EN.h;simp;omega) ba (by rw[bV.h];unfold jX.v;rw[<-EN.h];exact L5) (by rw[bV.h];unfold jX.v;rw[<-EN.h];exact a2) (by omega);obtain⟨k1,k2,k3⟩:=cv;have d2:Cz w5 b 1 (.slice C1.s0.A C1.s0.l.length C1.s0.c):=Yd a5 (bf.h.D.cell 1);have d3:Fz w5 b 1:=(aY (a:=⟨b,1,none⟩) a5).trans (bf.h.D.frozen 1);obtain⟨K1,K2,K3⟩:=fY k1 k2 k3;clear ba a2 L5 a5 k1 k2 k3;refine Yt ?_;refine Zl fun K hK=>?_;go_simp;refine Yl hK ?_;refine aT ?_;go_wp2_with fail;go_ret;have G:=HG.h;have Lc:Lv (ik b C) w wc:=Lv.iD b1 G.lv;have d4:=b1.size;have LA:Lv (ik b C) w wA:=Lc.cV cn.h;have cF:=LA.size;have cH:=Lc.size;have b2:∀k,ik b C1 k->ik b C k\/w.heap.size<=k:=fun k hk=>by rcases G.fp k hk with h1|h1;exact .inl h1;exact .inr (by omega)
 refine⟨⟨q,C1,A5,c5,rfl,G.how,?_,fun j hj=>?_⟩,?_⟩
 ·rw[<-HF.h];exact K1.h
 ·rw[<-HF.h] at hj
  rcases K2.h j hj with h1|h1
  ·exact b2 j h1
  ·exact .inr (by omega)
 ·exact LA.trans K3.h fun k hk=>b2 k hk
theorem It (b:Nat) (C:dK) (p:Int) (q:Nat) (w:World) (h:bS w b C) (hr:C.s0.l[cj 0 C.s0.l p]?=some (p,q)):
  Wz 175 #[Pz b,Iz 1,Iz p] w fun e w'=>e= .returned (Iz (q:Int))/\Bz w w':=by
 obtain⟨F,I⟩:=Zn (cj 0 C.s0.l p);have O:jx C.s0.l F p=true:=by unfold jx;rw[I,hr];simp
 have J:F<C.s0.l.length:=I▸aO hr;obtain⟨HF,HH,HR⟩:=fY I O hr;clear I O hr
 go_enter Tryz.func175,Tryz.ntmps175
 go_wp2_with fail;refine(sD b C p w h).mono ?_;rw[<-HF.h,HH.h];rintro e w1⟨rfl,b1⟩;have H1:=h.below b1;have c1:Cz w1 b 1 (.slice C.s0.A C.s0.l.length C.s0.c):=H1.D.cell 1;obtain⟨g,hA,r0,r1⟩:=qC H1.o0 (i:=F) (r:=(p,q)) (HF.h▸HR);rw[hA] at c1;simp only at r0 r1;obtain⟨N,eN⟩:=Zn C.s0.l.length;rw[<-eN] at c1 J;have i1:(F:Int)<N:=ae;clear h H1 eN hA;go_wp2_with fail;go_ret;exact⟨rfl,b1⟩
structure Rn (w w':World) (b:Nat) (C:dK) (p:Int) (Ls:List (List Nat)) (aK:Nat→dn) (e:Ending):Prop where
 h:∃(q:Nat) (C1:dK) (A:Option Addr) (c:Nat),e= .returned (Iz (q:Int))∧((∃sp,C.spare=sp++[q]∧C1={C with spare:=sp})∨(C.spare=[]∧q=Ls.length∧∃rq' X',C1={C with rq:=rq',X:=X'}∧fB X' (Ls++[[]]) aK∧X'.free=C.X.free))∧
  bS w' b (C1.DD A c (C.s1.l.take (cj 1 C.s1.l p)++(p,q)::C.s1.l.drop (cj 1 C.s1.l p)))∧(∀j,ik b (C1.DD A c (C.s1.l.take (cj 1 C.s1.l p)++(p,q)::C.s1.l.drop (cj 1 C.s1.l p))) j→ik b C j∨w.heap.size≤j)
 lv:Lv (ik b C) w w'
theorem Iu (b:Nat) (C:dK) (Ls:List (List Nat)) (aK:Nat->dn) (p:Int) (w:World) (h:bS w b C) (R:fB C.X Ls aK) (hq:C.X.H.length<900000) (b7:C.s1.l.length<100000) (bh:jx C.s1.l (cj 1 C.s1.l p) p=false):
  Wz 175 #[Pz b,Iz 2,Iz p] w fun e w'=>Rn w w' b C p Ls aK e:=by
 obtain⟨F,eF⟩:=Zn (cj 1 C.s1.l p);have a6:F<=C.s1.l.length:=eF▸xt _ _ _;obtain⟨HF,bp,HR⟩:=fY eF bh R;clear eF bh R;have cQ:IntKind.i64.wrap 0=0:=aN _ ae;have cT:IntKind.i64.wrap 1=1:=aN _ ae
 go_enter Tryz.func175,Tryz.ntmps175
 go_wp2_with fail;refine(sF b C p w h).mono ?_;rw[<-HF.h] at bp⊢;rw[bp.h];rintro e w1⟨rfl,b1⟩;have H1:=h.below b1;have c6:Cz w1 b 6 (.slice C.Ap C.spare.length C.cp):=H1.D.cell 6;obtain⟨K,eK⟩:=Zn C.spare.length;have hK:=H1.small.2.2;rw[<-eK] at c6 hK;obtain⟨I,HK⟩:=dF H1 eK;clear H1 eK h
 go_upto_if 36 with(fail)
 go_cut [9] (fun v wx=> ∃(q:Nat) (C1:dK),v= Iz (q:Int)/\Hid (OJ w1 wx b C C1 q Ls aK))
 case first=>
  by_cases b8:K=0
  ·subst b8
   have O:C.spare=[]:=aP HK.h.symm;have c0:Cz w1 b 0 (Pz C.a):=I.h.D.cell 0;have b9:=ao O;clear O c6;go_wp2_with fail;refine(Em C.a C.gs C.rq C.X Ls aK w1 I.h.ar HR.h hq).mono ?_;rintro e w2⟨rfl,rq',X',hX,bt, -,bE,hr,hL⟩;obtain⟨k1,k2⟩:=I.h.opened hX hr hL;have hg:Hid (OJ w1 w2 b C {C with rq:=rq',X:=X'} Ls.length Ls aK):=ao ⟨k1,hL.mono fun k hk=> .inl (.inr (.inl hk)),k2, .inr ⟨b9.h,rfl,rq',X',rfl,bt,bE⟩⟩;clear hX bt bE hr hL k1 k2 c0;go_wp2_with fail;go_meet;exact⟨_,_,rfl,hg⟩
  ·obtain⟨n,hn⟩:∃n,K=n+1:=⟨K - 1,ae⟩
   obtain⟨q,bb⟩:∃q,C.spare[n]?=some q:=⟨C.spare[n]'(cA HK.h),aj _⟩;obtain⟨sp,O,a7⟩:∃sp,C.spare=sp++[q]/\sp.length=n:=by
    refine⟨C.spare.take n,?_,by have:=HK.h;simp;omega⟩;have h1:C.spare=C.spare.take (n+1):=(aL (cA HK.h)).symm;rw[bC,bb] at h1;exact h1
   have ax:=I.h.op;rw[<-HK.h] at ax;obtain⟨g,hA,_,_⟩:=kz ax ae;have bH:=ie ax;rw[hA] at ax c6;have r0:Cz w1 g n (Iz (q:Int)):=dI ax (by unfold nE;rw[bo,bb];rfl);have f6:=I.h.D.frozen 6;obtain⟨k1,k2⟩:=I.h.Rl O a7;have bQ:bS (w1.setCell ⟨b,6,none⟩ (.slice (some ⟨g,0,none⟩) n C.cp)) b {C with spare:=sp}:=hA▸k1;have cX:IntKind.i64.wrap ((K:Int) - 1)=(n:Int):=by rw[aN _ ae];omega
   have dc:n<K:=ae;have dp:n<=C.cp:=ae;have dS:(0:Int)<K:=ae;have dT:((K:Int)==0)=false:=iW;have hg:Hid (OJ w1 ((w1.setCell ⟨b,6,none⟩ (.slice (some ⟨g,0,none⟩) n C.cp)).drew) b C {C with spare:=sp} q Ls aK):=
    ao ⟨bQ.drew,((Lv.refl _ w1).setCell (p:=⟨b,6,none⟩) (.inl rfl) _).drew,fun k hk=> .inl (k2 k hk), .inl ⟨sp,O,rfl⟩⟩
   have HN:=ao hn;clear hn bb O a7 ax hA k1 bQ k2 bH;go_wp2_with fail
   go_still_tail 19,(by kernel_rfl)
   go_wp2_with fail;go_meet;exact⟨_,_,rfl,hg⟩
 obtain⟨q,C1,rfl,HG⟩:=hcut;clear c6;have G:=HG.h;have ay:C1.s1=C.s1:=by
  rcases G.how with⟨sp,_,h1⟩|⟨_,_,rq',X',h1,_⟩<;>rw[h1]
 obtain⟨N,eN⟩:=Zn C.s1.l.length;have cS:Cz wc b 2 (.slice C.s1.A N C.s1.c):=eN▸ay▸G.at_.D.cell 2;have l2:∀u,mV b wc.drew u->Cz u b 2 (.slice C.s1.A N C.s1.c):=fun u hu=>Yd hu cS;obtain⟨wA,a0⟩:=Zn ((wc.alloc (.cells #[Iz p,Iz (q:Int)] 227)).drew);obtain⟨gA,bc⟩:=Zn wc.heap.size;have DA:aE wA gA 227 #[Iz p,Iz (q:Int)]:=a0▸bc▸(aE.new wc _ _).drew;have BA:Bz wc wA:=a0▸((aa _ wc).alloc (af _) _).drew;have AT:=G.at_.below BA;have a8:wA.ownsRow 0 227 2 (.slice C.s1.A N C.s1.c) N (cB C.s1.l):=eN▸ay▸AT.o1;have cd:b<wA.heap.size:=AT.D.lt;have cf:b<wc.heap.size:=G.at_.D.lt;have bR:∀g,(Value.slice C.s1.A N C.s1.c).ownBlock=some g->g≠b:=fun g hg=>by
  have:=AT.apart;have h2:C1.s1.v.ownBlock=some g:=by rw[ay];unfold jX.v;rw[<-eN];exact hg
  first
  |exact this.2.1 g h2
  |exact this.2.2.1 g h2
 have bU:∀g,(Value.slice C.s1.A N C.s1.c).ownBlock=some g->gA≠g:=fun g hg=>by
  have h2:C1.s1.v.ownBlock=some g:=by rw[ay];unfold jX.v;rw[<-eN];exact hg
  have:=(G.at_.o1.lt g h2).2;omega
 obtain⟨bf,bV,EN,b0,ck,cl,cm,cn⟩:=Dw AT ay eN a8 bR bU DA BA;rw[<-eN] at a6 b7;have ct:N<=1000000:=ae;clear G AT ay eN a8 bR bU DA BA cS;go_wp2_with fail;refine bx (R:=mV b) 19 [14,15,19] [0,1,2,3,4,5,6,7,8,9,10,11,12,13,16,17,14,15,18,19] (by kernel_rfl) (mV.tr b) (mV.J b) (by kernel_rfl) (fun _ _ _ _ _ h=>h) ?_;refine Yt ?_;clear l2;refine Ym fun K hK=>?_;rw[show(wc.alloc (.cells #[Iz p,Iz (q:Int)] 227)).drew=wA from a0.symm,<-bc];refine Yo hK ((a0▸du wc _ b cf:mV b wc.drew wA)) ?_;clear a0 bc;refine Ym fun K hK=>?_;refine(Ig C.s1.A C.s1.c C.s1.l N F gA p q wA b0.h EN.h.symm ct a6 cm.h cl.h).mono ?_;rintro e w5⟨A5,c5,rfl,ba,a2,L5⟩;have a5:mV b wA w5:=L5.block b cd (fun hs=>ck.h b hs.symm rfl);refine Yo hK (a5) ?_;have cv:=bf.h.DD (w':=w5) (A:=A5) (c:=c5) (n:=N+1) (l:=C.s1.l.take F++(p,q)::C.s1.l.drop F) (by have:=EN.h;simp;omega) ba (by rw[bV.h];unfold jX.v;rw[<-EN.h];exact L5) (by rw[bV.h];unfold jX.v;rw[<-EN.h];exact a2) ae;obtain⟨k1,k2,k3⟩:=cv;have d2:Cz w5 b 2 (.slice C1.s1.A C1.s1.l.length C1.s1.c):=Yd a5 (bf.h.D.cell 2);have d3:Fz w5 b 2:=(aY (a:=⟨b,2,none⟩) a5).trans (bf.h.D.frozen 2);obtain⟨K1,K2,K3⟩:=fY k1 k2 k3;clear ba a2 L5 a5 k1 k2 k3;refine Yt ?_;refine Zl fun K hK=>?_;go_simp;refine Yl hK ?_;refine aT ?_;go_wp2_with fail;go_ret;have G:=HG.h;have Lc:Lv (ik b C) w wc:=Lv.iD b1 G.lv;have d4:=b1.size;have LA:Lv (ik b C) w wA:=Lc.cV cn.h;have cF:=LA.size;have cH:=Lc.size;have b2:∀k,ik b C1 k->ik b C k\/w.heap.size<=k:=fun k hk=>by rcases G.fp k hk with h1|h1;exact .inl h1;exact .inr ae
 refine⟨⟨q,C1,A5,c5,rfl,G.how,?_,fun j hj=>?_⟩,?_⟩
 ·rw[<-HF.h];exact K1.h
 ·rw[<-HF.h] at hj
  rcases K2.h j hj with h1|h1
  ·exact b2 j h1
  ·exact .inr ae
 ·exact LA.trans K3.h fun k hk=>b2 k hk
theorem Iv (b:Nat) (C:dK) (p:Int) (q:Nat) (w:World) (h:bS w b C) (hr:C.s1.l[cj 1 C.s1.l p]?=some (p,q)):
  Wz 175 #[Pz b,Iz 2,Iz p] w fun e w'=>e= .returned (Iz (q:Int))/\Bz w w':=by
 obtain⟨F,I⟩:=Zn (cj 1 C.s1.l p);have O:jx C.s1.l F p=true:=by unfold jx;rw[I,hr];simp
 have J:F<C.s1.l.length:=I▸aO hr;obtain⟨HF,HH,HR⟩:=fY I O hr;clear I O hr
 go_enter Tryz.func175,Tryz.ntmps175
 go_wp2_with fail;refine(sF b C p w h).mono ?_;rw[<-HF.h,HH.h];rintro e w1⟨rfl,b1⟩;have H1:=h.below b1;have c1:w1.cell? ⟨b,2,none⟩=some (.slice C.s1.A C.s1.l.length C.s1.c):=H1.D.cell 2;obtain⟨g,hA,r0,r1⟩:=qC H1.o1 (i:=F) (r:=(p,q)) (HF.h▸HR);rw[hA] at c1;simp only at r0 r1;obtain⟨N,eN⟩:=Zn C.s1.l.length;rw[<-eN] at c1 J;have i1:(F:Int)<N:=ae;clear h H1 eN hA;go_wp2_with fail;go_ret;exact⟨rfl,b1⟩
def yv (k:Nat) (l:List (Int×Nat)) (p:Int):Bool:=match l with|[]=>true|r::_=>bz k p r.1
def oK (b i:Nat) (a c:World):Prop:=c.cell? ⟨b,i,none⟩=a.cell? ⟨b,i,none⟩
theorem oK.tr (b i:Nat) (x y z:World) (h:oK b i x y) (D:oK b i y z):oK b i x z:=ZE D h
theorem oK.J (b i:Nat) (a:World):oK b i a a:=rfl
def KO (C:dK) (Ls:List (List Nat)) (aK:Nat→dn):Prop:=
 C.s0.has=true→dZ C.s0.top∧∃(p:Int) (n j i:Nat) (L:List Nat),C.f C.s0.top=some (cR 1 p i)∧Ls[n]?=some L∧L[j]?=some i
def Vt (C:dK) (aK ent':Nat→dn):Prop:=
 (C.s0.has=false∧ent'=aK)∨(C.s0.has=true∧∃(p:Int) (i:Nat),C.f C.s0.top=some (cR 1 p i)∧ent'=fun x=>if x=i then {aK i with top:=false} else aK x)
namespace Ka
abbrev Iw:=@Io
abbrev Ix:=@Ip
abbrev ou:=@dK.s0
end Ka
theorem Vu (z:G:=by
 cases D:(ou C).has with
 |false=>
  refine(Iw b C id w h D).mono ?_;rintro e w'⟨rfl,J,O⟩;exact⟨rfl,⟨C.X,aK,J,R, .inl ⟨D,rfl⟩,rfl,rfl⟩,O⟩
 |true=>
  obtain⟨hi,p,n,j,i,L,hf,I,hj⟩:=hT D;have hs:=R.sl n L j i I hj;refine(Ix b C id p i _ w h D hi hf hs rfl).mono ?_;rintro e w'⟨rfl,J,O⟩;have hb:=R.qb n L i I (bF hj);have hr:=Nj R I hj {aK i with top:=false} rfl hb 0 (by simp);have heq:AL C.X i n {aK i with top:=false} 0=⟨C.X.slots.set i (cU.mk true i (aK i).id (aK i).aw false n (fV L j) (qe L (j+1))),C.X.H,C.X.free⟩:=by
   unfold AL;rw[xo hs,xo (R.qs n L I)];simp only[Hf];rw[mod_self (R.qs n L I)]
  rw[heq] at hr;exact⟨rfl,⟨_,_,J,hr, .inr ⟨D,p,i,hf,rfl⟩,rfl,rfl⟩,O⟩
 ):G:=z
open Ka in
theorem KP (b:Nat) (C:dK) (Ls:List (List Nat)) (aK:Nat->dn) (id:Int) (w:World) (h:bS w b C) (R:fB C.X Ls aK) (hT:KO C Ls aK):
  Wz 173 #[Pz b,Iz id,Iz 1] w fun e w'=>e= .returned (.tuple #[])/\(∃X' ent',bS w' b ((C.xz X').Bj id)/\fB X' Ls ent'/\Vt C aK ent'/\X'.free=C.X.free/\X'.H.length=C.X.H.length)/\Lv (ik b C) w w':=Vu
def KQ (C:dK) (Ls:List (List Nat)) (aK:Nat→dn):Prop:=
 C.s1.has=true→dZ C.s1.top∧∃(p:Int) (n j i:Nat) (L:List Nat),C.f C.s1.top=some (cR 2 p i)∧Ls[n]?=some L∧L[j]?=some i
def Vv (C:dK) (aK ent':Nat→dn):Prop:=
 (C.s1.has=false∧ent'=aK)∨(C.s1.has=true∧∃(p:Int) (i:Nat),C.f C.s1.top=some (cR 2 p i)∧ent'=fun x=>if x=i then {aK i with top:=false} else aK x)
namespace Kb
abbrev Iw:=@Iq
abbrev Ix:=@Ir
abbrev ou:=@dK.s1
end Kb
open Kb in
theorem KS (b:Nat) (C:dK) (Ls:List (List Nat)) (aK:Nat->dn) (id:Int) (w:World) (h:bS w b C) (R:fB C.X Ls aK) (hT:KQ C Ls aK):
  Wz 173 #[Pz b,Iz id,Iz 2] w fun e w'=>e= .returned (.tuple #[])/\(∃X' ent',bS w' b ((C.xA X').Bk id)/\fB X' Ls ent'/\Vv C aK ent'/\X'.free=C.X.free/\X'.H.length=C.X.H.length)/\Lv (ik b C) w w':=Vu
def Iy (C C2:dK) (p:Int) (q:Nat) (Ls Ls2:List (List Nat)):Prop:=
 (C.s0.l[cj 0 C.s0.l p]?=some (p,q)∧C2=C∧Ls2=Ls)∨
 (jx C.s0.l (cj 0 C.s0.l p) p=false∧∃(A:Option Addr) (c:Nat),(∃sp,C.spare=sp++[q]∧Ls2=Ls∧C2=dK.DB {C with spare:=sp} A c (C.s0.l.take (cj 0 C.s0.l p)++(p,q)::C.s0.l.drop (cj 0 C.s0.l p)))∨
  (C.spare=[]∧q=Ls.length∧Ls2=Ls++[[]]∧∃rq' X',C2=dK.DB {C with rq:=rq',X:=X'} A c (C.s0.l.take (cj 0 C.s0.l p)++(p,q)::C.s0.l.drop (cj 0 C.s0.l p))))
structure Zc (w w':World) (b:Nat) (C C2:dK) (p:Int) (q:Nat) (Ls Ls2:List (List Nat)) (aK:Nat→dn):Prop where
 at_:bS w' b C2
 lv:Lv (ik b C) w w'
 fp:∀j,ik b C2 j→ik b C j∨w.heap.size≤j
 rel:fB C2.X Ls2 aK
 lq:∃L,Ls2[q]?=some L
 free:C2.X.free=C.X.free
 how:Iy C C2 p q Ls Ls2
theorem Vw (z:G:=by
 rcases h with⟨_,rfl,_⟩|⟨_,A,c,⟨sp,_,_,rfl⟩|⟨_,_,_,rq',D,rfl⟩⟩
 ·exact⟨rfl,rfl,rfl,rfl,rfl⟩
 ·exact⟨rfl,rfl,rfl,rfl,rfl⟩
 ·exact⟨rfl,rfl,rfl,rfl,rfl⟩
 ):G:=z
open Ka in
theorem Iy.same (h:Iy C C2 p q Ls Ls2):C2.a=C.a/\C2.gs=C.gs/\C2.mb=C.mb/\C2.f=C.f/\C2.n=C.n:=Vw
namespace Ka
abbrev xB {α:Type} [OfNat α (nat_lit 0)]:α:=OfNat.ofNat (nat_lit 0)
abbrev IA:=@It
abbrev IB:=@Is
end Ka
theorem Vx (z:G:=by
 cases D:jx (ou C).l (cj xB (ou C).l p) p with
 |true=>
  obtain⟨q,hr⟩:∃q,(ou C).l[cj xB (ou C).l p]?=some (p,q):=by
   unfold jx at D
   cases hc:(ou C).l[cj xB (ou C).l p]? with
   |none=>rw[hc] at D;cases D
   |some r=>
    rw[hc] at D;simp at D;obtain⟨x,q⟩:=r;simp only at D;exact⟨q,by rw[D]⟩
  refine(IA b C p q w h hr).mono ?_;rintro e w'⟨rfl,b1⟩;exact⟨q,C,Ls,rfl,⟨h.below b1,Lv.bL b1,fun j hj=> .inl hj,R,hlv _ (bF hr),rfl, .inl ⟨hr,rfl,rfl⟩⟩⟩
 |false=>
  refine(IB b C Ls aK p w h R hq hsm D).mono ?_;rintro e w'⟨⟨q,C1,A,c,rfl,how,I,J⟩,O⟩;rcases how with⟨sp,hs,rfl⟩|⟨hs,rfl,rq',X',rfl,hR,hf⟩
  ·exact⟨q,_,Ls,rfl,⟨I,O,J,R,⟨[],hsp q (by rw[hs];simp)⟩,rfl, .inr ⟨D,A,c, .inl ⟨sp,hs,rfl,rfl⟩⟩⟩⟩
  ·exact⟨Ls.length,_,_,rfl,⟨I,O,J,hR,⟨[],by rw[bK (af _),Vn];rfl⟩,hf, .inr ⟨D,A,c, .inr ⟨hs,rfl,rfl,rq',X',rfl⟩⟩⟩⟩
 ):G:=z
open Ka in
theorem IC (b:Nat) (C:dK) (Ls:List (List Nat)) (aK:Nat->dn) (p:Int) (w:World) (h:bS w b C) (R:fB C.X Ls aK) (hq:C.X.H.length<900000) (hsm:C.s0.l.length<100000)
  (hsp:∀q∈C.spare,Ls[q]?=some []) (hlv:∀r∈C.s0.l,∃L,Ls[r.2]?=some L):
  Wz 175 #[Pz b,Iz 1,Iz p] w fun e w'=> ∃(q:Nat) (C2:dK) (Ls2:List (List Nat)),e= .returned (Iz (q:Int))/\Zc w w' b C C2 p q Ls Ls2 aK:=Vx
def ID (C C2:dK) (p:Int) (q:Nat) (Ls Ls2:List (List Nat)):Prop:=
 (C.s1.l[cj 1 C.s1.l p]?=some (p,q)∧C2=C∧Ls2=Ls)∨
 (jx C.s1.l (cj 1 C.s1.l p) p=false∧∃(A:Option Addr) (c:Nat),(∃sp,C.spare=sp++[q]∧Ls2=Ls∧C2=dK.DD {C with spare:=sp} A c (C.s1.l.take (cj 1 C.s1.l p)++(p,q)::C.s1.l.drop (cj 1 C.s1.l p)))∨
  (C.spare=[]∧q=Ls.length∧Ls2=Ls++[[]]∧∃rq' X',C2=dK.DD {C with rq:=rq',X:=X'} A c (C.s1.l.take (cj 1 C.s1.l p)++(p,q)::C.s1.l.drop (cj 1 C.s1.l p))))
structure Zh (w w':World) (b:Nat) (C C2:dK) (p:Int) (q:Nat) (Ls Ls2:List (List Nat)) (aK:Nat→dn):Prop where
 at_:bS w' b C2
 lv:Lv (ik b C) w w'
 fp:∀j,ik b C2 j→ik b C j∨w.heap.size≤j
 rel:fB C2.X Ls2 aK
 lq:∃L,Ls2[q]?=some L
 free:C2.X.free=C.X.free
 how:ID C C2 p q Ls Ls2
open Kb in
theorem ID.same (h:ID C C2 p q Ls Ls2):C2.a=C.a/\C2.gs=C.gs/\C2.mb=C.mb/\C2.f=C.f/\C2.n=C.n:=Vw
namespace Kb
abbrev xB {α:Type} [OfNat α (nat_lit 1)]:α:=OfNat.ofNat (nat_lit 1)
abbrev IA:=@Iv
abbrev IB:=@Iu
end Kb
open Kb in
theorem IE (b:Nat) (C:dK) (Ls:List (List Nat)) (aK:Nat->dn) (p:Int) (w:World) (h:bS w b C) (R:fB C.X Ls aK) (hq:C.X.H.length<900000) (hsm:C.s1.l.length<100000)
  (hsp:∀q∈C.spare,Ls[q]?=some []) (hlv:∀r∈C.s1.l,∃L,Ls[r.2]?=some L):
  Wz 175 #[Pz b,Iz 2,Iz p] w fun e w'=> ∃(q:Nat) (C2:dK) (Ls2:List (List Nat)),e= .returned (Iz (q:Int))/\Zh w w' b C C2 p q Ls Ls2 aK:=Vx
theorem Wk (h:fR w b f n) (ty:TypeId):(Builtin.len_ #[191] ty #[.map (some b)]).run Tryz.prog w= .ok (Iz (n:Int)) w:=
 h.len Tryz.underlying191 ty
theorem bS.mapped (h:bS w b C) (hm:fR w' C.mb f n) (hg:w.grownBy w' (some C.mb)):bS w' b {C with f:=f,n:=n}:=by
 obtain⟨n1,n2,n3,n4,n5⟩:=h.apart;have ax:∃es clock,w.heap[C.mb]?=some (.map es clock):=by
  obtain⟨D,⟨es,clock,hm,_⟩,_⟩:=h.mp;exact⟨es,clock,hm⟩
 obtain⟨es,clock,hb⟩:=ax;have O:∀{k:Nat} {cur:Array Value} {T:TypeId},w.heap[k]?=some (.cells cur T (0,0))->some k≠some C.mb:=by
  intro k cur T hk he;injection he with he;rw[he,hb] at hk
  cases hk
 refine⟨h.D.block (hg.block b h.D.lt (O h.D)),h.ar.same fun k hk=>?_,aX h.o0 fun g I=>?_,aX h.o1 fun g I=>?_,h.ne,hm,aX h.op fun g I=>?_,h.small⟩
 ·obtain⟨cur,T,J,_⟩:=h.ar.types k hk
  exact hg.block k (h.ar.lt k hk) (O J)
 ·obtain⟨cur,J⟩:=bY h.o0 I
  exact hg.block g (h.o0.lt g I).2 (O J)
 ·obtain⟨cur,J⟩:=bY h.o1 I
  exact hg.block g (h.o1.lt g I).2 (O J)
 ·obtain⟨cur,J⟩:=bY h.op I
  exact hg.block g (h.op.lt g I).2 (O J)
def Ge (C C1:dK) (aK ent1:Nat→dn) (tp:Bool) (id:Int):Prop:=
 (tp=false∧C1=C∧ent1=aK)∨(tp=true∧∃X1,C1=dK.Bj (C.xz X1) id∧Vt C aK ent1)
structure Wl (w w':World) (b:Nat) (C C1:dK) (Ls:List (List Nat)) (aK ent1:Nat→dn) (tp:Bool) (id:Int):Prop where
 at_:bS w' b C1
 rel:fB C1.X Ls ent1
 how:Ge C C1 aK ent1 tp id
 fp:∀j,ik b C1 j→ik b C j
 free:C1.X.free=C.X.free
 ql:C1.X.H.length=C.X.H.length
 rest:C1.a=C.a∧C1.gs=C.gs∧C1.mb=C.mb∧C1.f=C.f∧C1.n=C.n∧C1.spare=C.spare∧C1.s0.l=C.s0.l
 lv:Lv (ik b C) w w'
structure Uc (w w':World) (b:Nat) (C:dK) (Ls:List (List Nat)) (aK:Nat→dn) (id p aw:Int):Prop where
 h:∃(C1 C2 C3:dK) (ent1:Nat→dn) (q:Nat) (Ls2:List (List Nat)) (L:List Nat) (i:Nat) (X3:qd),Ge C C1 aK ent1 (yv 0 C.s0.l p) id∧Iy C1 C2 p q Ls Ls2∧Ls2[q]?=some L∧(∀(m:Nat) (M:List Nat),Ls2[m]?=some M→i∉M)∧
  fB X3 (Ls2.set q (L++[i])) (fun x=>if x=i then ⟨id,aw,yv 0 C.s0.l p⟩ else ent1 x)∧C3={C2 with X:=X3,f:=fun y=>if y=id then some (cR 1 p i) else C2.f y,n:=C2.n+1}∧
  bS w' b C3∧(∀j,ik b C3 j→ik b C j∨w.heap.size≤j)
 lv:Lv (ik b C) w w'
namespace Ka
abbrev tW {α:Type} [OfNat α (nat_lit 0)]:α:=OfNat.ofNat (nat_lit 0)
abbrev IG:=@xv
abbrev pN {α:Type} [OfNat α (nat_lit 1)]:α:=OfNat.ofNat (nat_lit 1)
abbrev Bm:=@Wl
abbrev IH:=@KP
abbrev II:=@IC
abbrev kC:=@dK.s0
abbrev Bn:=@bS.o0
abbrev Bo:=@dK.Bj
abbrev tX:=@dK.xz
abbrev yw:=@bS.xz
end Ka
theorem tY {p:Prop} (h:p:=by (try dsimp only [tW,pN,kC,Bn,Bo,tX,yw] at *);omega):p:=h
theorem Vy (z:G:=by
 have ct:(Instr.lookup 191 (.map (some C.mb)) (Iz id) true).run Tryz.prog w= .ok (.tuple #[.agg #[Iz 0,Iz 0,Iz 0], .bool false]) w:=by
  have:=sG h.mp hid;rw[hf] at this;exact this
 have c3:w.cell? ⟨b,3,none⟩=some (.map (some C.mb)):=h.D.cell 3;obtain⟨wA,bt⟩:=Zn (w.alloc (.cells #[Iz 0,Iz 0,Iz 0] 199));obtain⟨gA,cv⟩:=Zn w.heap.size;have BA:=Zw bt;have hA:=h.below BA;obtain⟨tp,b0⟩:=Zn (yv tW (kC C).l p);obtain⟨cF,cH⟩:=hqty;have i1:¬aw<1:=tY;have i2:¬1000000<aw:=tY;have i3:¬(250:Int)<=C.n:=tY;obtain⟨HA,a5,HR,HT,cQ,cT,cX,dc,HF,HN,bE,HQ,dp⟩:=QO hA b0 R hT hsp hlv BA hid hf hn hfree hq hsm;have ea:IntKind.i64.wrap 0=0:=aN _ tY;have eb:IntKind.i64.wrap 1=1:=aN _ tY;clear h hA b0 R hT hsp hlv BA hid hf hn hfree hq hsm
 go_enter Tryz.func147,Tryz.ntmps147
 go_upto_block 0 with(fail)
 rw[<-bt,<-cv];clear bt ct c3;have c3:wA.cell? ⟨b,3,none⟩=some (.map (some C.mb)):=HA.h.D.cell 3;have hlen:=fun ty=>Wk HA.h.mp ty;go_wp2_with fail;refine(IG _).mono ?_;rintro e w1⟨rfl,rfl⟩;obtain⟨N,eN⟩:=Zn (kC C).l.length;obtain⟨AS,bH⟩:=Zn (kC C).A;have cS:wA.cell? ⟨b,pN,none⟩=some (.slice AS N (kC C).c):=by rw[eN,bH];exact HA.h.D.cell pN
 have EA:=ao bH;clear bH;have EN:=ao eN;clear eN
 go_upto_region 11 with(fail)
 clear c3 hlen cS
 go_cut [14] (fun v wx=>v= .bool tp/\wA=wx)
 case first=>
  by_cases dS:N=0
  ·subst dS
   have hl:(kC C).l=[]:=aP EN.h.symm;have I:tp=true:=by rw[a5.h,hl];rfl
   clear hl;subst I;go_wp2_with fail;go_meet;exact⟨rfl,rfl⟩
  ·have d8:0<N:=tY
   have ed:((N:Int)==0)=false:=by simp;exact tY
   have ef:(0:Int)<N:=tY;obtain⟨r,hr⟩:∃r,(kC C).l[0]?=some r:=⟨(kC C).l[0]'(by have:=EN.h;exact tY),aj _⟩;obtain⟨x,n⟩:=r;have I:bz tW p x=tp:=by
    rw[a5.h]
    cases hl:(kC C).l with
    |nil=>rw[hl] at hr;cases hr
    |cons r l=>rw[hl] at hr;injection hr with hr;subst hr;rfl
   obtain⟨g,hA,r0,r1⟩:=qC (Bn HA.h) (i:=0) hr;simp only[kp,ec] at r0 r1;have dT:AS=some ⟨g,0,none⟩:=EA.h.trans hA;clear EA;subst dT;have d2:=ao I;clear hr hA I;go_wp2_with fail;refine(pK pN p x tW rfl _).mono ?_;rintro e w1⟨rfl,rfl⟩;rw[d2.h];go_wp2_with fail;go_meet;exact⟨rfl,rfl⟩
 obtain⟨rfl,rfl⟩:=hcut
 go_upto_if 65 with(fail)
 go_cut [] (fun wx=> ∃(C1:dK) (ent1:Nat->dn),Hid (Bm wA wx b C C1 Ls aK ent1 tp id))
 case first=>
  rcases(cG tp).symm with I|I
  ·subst I
   go_wp2_with fail;go_meet;exact⟨C,aK,ao ⟨HA.h,HR.h, .inl ⟨rfl,rfl,rfl⟩,fun j O=>O,rfl,rfl,⟨rfl,rfl,rfl,rfl,rfl,rfl,rfl⟩,Lv.refl _ _⟩⟩
  ·subst I
   go_wp2_with fail;refine(IH b C Ls aK id wA HA.h HR.h HT.h).mono ?_;rintro e w1⟨rfl,⟨X1,ent1,k1,k2,k3,k4,k5⟩,k6⟩;have HG:Hid (Bm wA w1 b C (Bo (tX C X1) id) Ls aK ent1 true id):=ao ⟨k1,k2, .inr ⟨rfl,X1,rfl,k3⟩,fun j O=>O,k4,k5,⟨rfl,rfl,rfl,rfl,rfl,rfl,rfl⟩,k6⟩;clear k1 k2 k3 k4 k5 k6;go_wp2_with fail;go_meet;exact⟨_,_,HG⟩
 obtain⟨C1,ent1,HS⟩:=hcut;have G:=HS.h;obtain⟨r1,r2,r3,r4,r5,r6,r7⟩:=G.rest;have c0:wc.cell? ⟨b,0,none⟩=some (Pz C1.a):=G.at_.D.cell 0;have l0:∀u,oK b 0 wc.drew u->u.cell? ⟨b,0,none⟩=some (Pz C1.a):=fun u hu=>ZE hu c0;have b2:bS wc.drew b C1:=G.at_.drew;have b7:=G.rel;have b8:C1.X.H.length<900000:=by rw[G.ql];exact HQ.h
 have a8:(kC C1).l.length<100000:=by rw[r7];exact dp.h
 have ba:∀q∈C1.spare,Ls[q]?=some []:=by rw[r6];exact cQ.h
 have bb:∀r∈(kC C1).l,∃L,Ls[r.2]?=some L:=by rw[r7];exact cT.h
 have bc:0<C1.X.free:=by rw[G.free];exact bE.h
 obtain⟨B1,R1,Q1,S1,P1,V1,F1,C0,RR⟩:=QG b2 b7 b8 a8 ba bb bc c0 (And.intro r3 (And.intro r4 r5));clear G r1 r2 r3 r4 r5 r6 r7 b2 b7 b8 a8 ba bb bc c0;go_wp2_with fail;refine bx (R:=oK b 0) 99999 [7,11] [0,1,2,3,4,5,6,8,9,10,7,11,12,13,14,15,16] (by kernel_rfl) (oK.tr b 0) (oK.J b 0) (by kernel_rfl) (fun _ _ _ _ _ h=>h) ?_;refine Yt ?_;clear l0;refine Ym fun K hK=>?_;refine(II b C1 Ls ent1 p _ B1.h R1.h Q1.h S1.h P1.h V1.h).mono ?_;rintro e w5⟨q,C2,Ls2,rfl,a6⟩;obtain⟨t1,t2,t3,t4,t5⟩:=a6.how.same;have b9:w5.cell? ⟨b,0,none⟩=some (Pz C1.a):=by rw[<-t1];exact a6.at_.D.cell 0
 obtain⟨ax,TT,cd⟩:=fY a6 (And.intro t3 (And.intro t4 t5)) (And.intro t1 t2);have cf:oK b 0 wc.drew w5:=b9.trans C0.h.symm;clear a6 t1 t2 t3 t4 t5;refine Yo hK (cf) ?_;refine Ym fun K hK=>?_;obtain⟨L,hL⟩:=ax.h.lq;have bQ:=Oz C2.a C2.gs C2.rq C2.X Ls2 ent1 q L id aw tp w5 ax.h.at_.ar ax.h.rel hL (by rw[ax.h.free];exact F1.h) ⟨cF,cH⟩;rw[cd.h.1] at bQ;refine bQ.mono ?_;rintro e w6⟨i,rfl,⟨X3,bR,ck⟩,bf,a7⟩;rw[<-cd.h.1] at bR a7;have ay:=yw ax.h.at_ bR a7;have cl:oK b 0 w5 w6:=by
  have h1:w6.cell? ⟨b,0,none⟩=some (Pz C2.a):=ay.D.cell 0;have h2:w5.cell? ⟨b,0,none⟩=some (Pz C2.a):=ax.h.at_.D.cell 0;exact h1.trans h2.symm
 obtain⟨bU,d3,HL,d4,cm⟩:=rU ay a7 hL ck bf;clear bR ck bf a7 hL bQ ay cf b9;refine Yo hK (cl) ?_;clear cl;refine Yt ?_;refine aT ?_;have c3:w6.cell? ⟨b,3,none⟩=some (.map (some C2.mb)):=bU.h.D.cell 3;obtain⟨w7,bh,cn,bV⟩:=bU.h.mp.put Tryz.underlying191 dc.h (cR pN p i) (by rw[show(tX C2 X3).n=C2.n from rfl,TT.h.2.2,RR.h.2.2];have:=HN.h;exact tY);have d5:(Instr.mapUpdate 191 (.map (some C2.mb)) (Iz id) (.agg #[Iz pN,Iz p,Iz (i:Int)])).run Tryz.prog w6= .ok () w7:=bh;have a0:C2.f id=none:=by rw[TT.h.2.1,RR.h.2.1];exact HF.h
 have bp:=bU.h.mapped cn bV;obtain⟨HM,d6,d7⟩:=fY bp bV a0;clear bh cn bp bV a0;go_wp2_with fail;go_ret;have G:=HS.h;have Q:=ax.h;have Lc:Lv (ik b C) w wc:=Lv.iD cX.h G.lv;have d9:=Lc.size;have Lq:Lv (ik b C) w w5:=Lv.trans Lc.drew Q.lv fun j O=> .inl (G.fp j O);have a2:∀j,ik b C2 j->ik b C j\/w.heap.size<=j:=fun j O=>by
  rcases Q.fp j O with h1|h1
  ·exact .inl (G.fp j h1)
  ·have h2:wc.drew.heap.size=wc.heap.size:=rfl
   exact .inr tY
 have L6:Lv (ik b C) w w6:=Lv.trans Lq d3.h fun j O=>a2 j (.inr (.inl O));have L7:Lv (ik b C) w w7:=L6.trans (Lv.dy (F:=fun j=>j=C2.mb) d6.h fun j O=> .inl (by injection O with O;exact O.symm)) fun j O=>a2 j (by subst O;exact .inr (.inr (.inr (.inr (.inl rfl)))));refine⟨rfl,⟨⟨C1,C2,_,ent1,q,Ls2,L,i,X3,by rw[<-a5.h];exact G.how,Q.how,HL.h,cm.h,by rw[<-a5.h];exact d4.h,rfl,?_,fun j O=>a2 j O⟩,L7⟩⟩;have:=HM.h;rw[show(tX C2 X3).f=C2.f from rfl,d7.h] at this;exact this
 ):G:=z
open Ka in
theorem OK (b:Nat) (C:dK) (Ls:List (List Nat)) (aK:Nat->dn) (id p aw:Int) (w:World) (h:bS w b C) (R:fB C.X Ls aK) (hT:KO C Ls aK) (hid:dZ id) (hf:C.f id=none) (hn:C.n<250) (hfree:0<C.X.free)
  (hq:C.X.H.length<900000) (hsm:C.s0.l.length<100000) (hsp:∀q∈C.spare,Ls[q]?=some []) (hlv:∀r∈C.s0.l,∃L,Ls[r.2]?=some L) (hqty:1<=aw/\aw<=1000000):
  Wz 147 #[Pz b,Iz id,Iz 1,Iz p,Iz aw] w fun e w'=>e= .returned (Iz 0)/\Uc w w' b C Ls aK id p aw:=Vy
def Gf (C C1:dK) (aK ent1:Nat→dn) (tp:Bool) (id:Int):Prop:=
 (tp=false∧C1=C∧ent1=aK)∨(tp=true∧∃X1,C1=dK.Bk (C.xA X1) id∧Vv C aK ent1)
structure Wm (w w':World) (b:Nat) (C C1:dK) (Ls:List (List Nat)) (aK ent1:Nat→dn) (tp:Bool) (id:Int):Prop where
 at_:bS w' b C1
 rel:fB C1.X Ls ent1
 how:Gf C C1 aK ent1 tp id
 fp:∀j,ik b C1 j→ik b C j
 free:C1.X.free=C.X.free
 ql:C1.X.H.length=C.X.H.length
 rest:C1.a=C.a∧C1.gs=C.gs∧C1.mb=C.mb∧C1.f=C.f∧C1.n=C.n∧C1.spare=C.spare∧C1.s1.l=C.s1.l
 lv:Lv (ik b C) w w'
structure Ud (w w':World) (b:Nat) (C:dK) (Ls:List (List Nat)) (aK:Nat→dn) (id p aw:Int):Prop where
 h:∃(C1 C2 C3:dK) (ent1:Nat→dn) (q:Nat) (Ls2:List (List Nat)) (L:List Nat) (i:Nat) (X3:qd),Gf C C1 aK ent1 (yv 1 C.s1.l p) id∧ID C1 C2 p q Ls Ls2∧Ls2[q]?=some L∧(∀(m:Nat) (M:List Nat),Ls2[m]?=some M→i∉M)∧
  fB X3 (Ls2.set q (L++[i])) (fun x=>if x=i then ⟨id,aw,yv 1 C.s1.l p⟩ else ent1 x)∧C3={C2 with X:=X3,f:=fun y=>if y=id then some (cR 2 p i) else C2.f y,n:=C2.n+1}∧
  bS w' b C3∧(∀j,ik b C3 j→ik b C j∨w.heap.size≤j)
 lv:Lv (ik b C) w w'
namespace Kb
abbrev tW {α:Type} [OfNat α (nat_lit 1)]:α:=OfNat.ofNat (nat_lit 1)
abbrev IG:=@xw
abbrev pN {α:Type} [OfNat α (nat_lit 2)]:α:=OfNat.ofNat (nat_lit 2)
abbrev Bm:=@Wm
abbrev IH:=@KS
abbrev II:=@IE
abbrev kC:=@dK.s1
abbrev Bn:=@bS.o1
abbrev Bo:=@dK.Bk
abbrev tX:=@dK.xA
abbrev yw:=@bS.xA
end Kb
open Kb in
theorem OL (b:Nat) (C:dK) (Ls:List (List Nat)) (aK:Nat->dn) (id p aw:Int) (w:World) (h:bS w b C) (R:fB C.X Ls aK) (hT:KQ C Ls aK) (hid:dZ id) (hf:C.f id=none) (hn:C.n<250) (hfree:0<C.X.free)
  (hq:C.X.H.length<900000) (hsm:C.s1.l.length<100000) (hsp:∀q∈C.spare,Ls[q]?=some []) (hlv:∀r∈C.s1.l,∃L,Ls[r.2]?=some L) (hqty:1<=aw/\aw<=1000000):
  Wz 147 #[Pz b,Iz id,Iz 2,Iz p,Iz aw] w fun e w'=>e= .returned (Iz 0)/\Ud w w' b C Ls aK id p aw:=Vy
theorem DF {x y z:Int} (I:bz k x y=true) (J:bz k y z=true):bz k x z=true:=by
 unfold bz at*
 by_cases D:k=0
 ·rw[if_pos D,decide_eq_true_iff] at*;omega
 ·rw[if_neg D,decide_eq_true_iff] at*;omega
theorem DG {x y:Int} (D:bz k x y=false) (J:x≠y):bz k y x=true:=by
 unfold bz at*
 by_cases I:k=0
 ·rw[if_pos I] at*;rw[decide_eq_true_iff];rw[decide_eq_false_iff_not] at D;omega
 ·rw[if_neg I] at*;rw[decide_eq_true_iff];rw[decide_eq_false_iff_not] at D;omega
theorem Bp (k:Nat) (x:Int):bz k x x=false:=by
 unfold bz
 by_cases D:k=0
 ·rw[if_pos D,decide_eq_false_iff_not];omega
 ·rw[if_neg D,decide_eq_false_iff_not];omega
abbrev iQ:=Int×List dn
structure BM where
 s0:List iQ
 s1:List iQ
def Br (e:dn):dn:={e with top:=false}
def yx (l:List iQ):List iQ:=l.map fun r=>(r.1,r.2.map Br)
def mo (k:Nat):List iQ→Int→dn→List iQ
 |[],p,e=>[(p,[e])]
 |r::l,p,e=>if bz k r.1 p=true then r::mo k l p e else if r.1=p then (r.1,r.2++[e])::l else (p,[e])::r::l
def Kd (k:Nat) (l:List iQ) (p:Int):Bool:=match l with|[]=>true|r::_=>bz k p r.1
def jo (k:Nat) (l:List iQ) (id p q:Int):List iQ:=mo k (if Kd k l p=true then yx l else l) p ⟨id,q,Kd k l p⟩
def fS (id q:Int) (e:dn):Option dn:=if e.id=id then (if e.aw≤q then none else some {e with aw:=e.aw - q}) else some e
def yy (id q:Int) (r:iQ):iQ:=(r.1,r.2.filterMap (fS id q))
def kZ (id q:Int) (l:List iQ):List iQ:=(l.map (yy id q)).filter fun r=> !r.2.isEmpty
def BM.side (M:BM) (k:Nat):List iQ:=if k=0 then M.s0 else M.s1
def BM.add (M:BM) (k:Nat) (id p q:Int):BM:=if k=0 then ⟨jo 0 M.s0 id p q,M.s1⟩ else ⟨M.s0,jo 1 M.s1 id p q⟩
def BM.cut (M:BM) (id q:Int):BM:=⟨kZ id q M.s0,kZ id q M.s1⟩
def gY (l:List iQ):List dn:=l.flatMap (·.2)
def BM.I (M:BM):List dn:=gY M.s0++gY M.s1
def dL (Ls:List (List Nat)) (aK:Nat→dn) (q:Nat):List dn:=((Ls[q]?).getD []).map aK
def dB (v:Nat→List dn) (l:List (Int×Nat)):List iQ:=l.map fun r=>(r.1,v r.2)
theorem ft (h:Ls[q]?=some L):dL Ls aK q=L.map aK:=by unfold dL;rw[h];rfl
theorem tZ (h:q≠n):dL (Ls.set n M) aK q=dL Ls aK q:=by
 unfold dL;rw[aZ (fun e=>h e.symm)]
theorem t9 (h:n<Ls.length):dL (Ls.set n M) aK n=M.map aK:=by
 unfold dL;rw[aD h];rfl
theorem Eo (Ls:List (List Nat)) (aK:Nat->dn) (q:Nat):dL (Ls++[[]]) aK q=dL Ls aK q:=by
 unfold dL;rcases Nat.lt_trichotomy q Ls.length with h|h|h
 ·rw[bX h]
 ·subst h;simp
 ·rw[bK ae,cO (l:=Ls) ae,cO iW]
theorem Bs (h:∀L,Ls[q]?=some L->∀i∈L,aK i=ent' i):dL Ls aK q=dL Ls ent' q:=by
 unfold dL
 cases D:Ls[q]? with
 |none=>rfl
 |some L=>exact cJ (h L D)
theorem lj (h:e∈dL Ls aK q):∃L i,Ls[q]?=some L/\i∈L/\aK i=e:=by
 unfold dL at h
 cases D:Ls[q]? with
 |none=>rw[D] at h;simp at h
 |some L=>
  rw[D] at h;simp at h;obtain⟨i,hi,he⟩:=h;exact⟨L,i,rfl,hi,he⟩
theorem nN (h:∀r∈l,v r.2=v' r.2):dB v l=dB v' l:=by
 unfold dB;exact cJ fun r hr=>by rw[h r hr]
def ua (k:Nat) (l:List (Int×Nat)) (p:Int) (q:Nat):List (Int×Nat):=l.take (cj k l p)++(p,q)::l.drop (cj k l p)
theorem Ep:ua k (r::l) p q=if bz k r.1 p=true then r::ua k l p q else (p,q)::r::l:=by
 unfold ua
 by_cases h:bz k r.1 p=true
 ·rw[if_pos h]
  have:cj k (r::l) p=cj k l p+1:=by rw[cj];rw[if_pos h]
  rw[this];rfl
 ·rw[if_neg h]
  have:cj k (r::l) p=0:=by rw[cj];rw[if_neg h]
  rw[this];rfl
theorem jP (k:Nat) (l:List (Int×Nat)) (p:Int) (q:Nat):(ua k l p q).Perm ((p,q)::l):=by
 unfold ua;refine List.perm_middle.trans ?_;rw[iG]
theorem Bt:jx (r::l) (cj k (r::l) p) p=if bz k r.1 p=true then jx l (cj k l p) p else (r.1==p):=by
 rw[cj]
 by_cases h:bz k r.1 p=true
 ·rw[if_pos h,if_pos h];simp[jx]
 ·rw[if_neg h,if_neg h];simp[jx]
theorem ud:∀{l:List (Int×Nat)} {p:Int} {q:Nat},l.Pairwise (fun a b=>bz k a.1 b.1=true)->jx l (cj k l p) p=false->(ua k l p q).Pairwise (fun a b=>bz k a.1 b.1=true)
 |[],p,q,h,D=>by simp[ua]
 |r::l,p,q,h,D=>by
  rw[Bt] at D;rw[Ep];have J:=tz.1 h
  by_cases I:bz k r.1 p=true
  ·rw[if_pos I] at D⊢
   refine tz.2 ⟨fun x hx=>?_,ud J.2 D⟩;rcases a9.1 ((jP k l p q).mem_iff.1 hx) with rfl|hx
   ·exact I
   ·exact J.1 x hx
  ·rw[if_neg I] at D⊢
   have hp:bz k p r.1=true:=DG (by simpa using I) (by simpa using D);refine tz.2 ⟨fun x hx=>?_,h⟩;rcases a9.1 hx with rfl|hx
   ·exact hp
   ·exact DF hp (J.1 x hx)
theorem jy:∀{l:List (Int×Nat)} {j:Nat} {r:Int×Nat},l.Pairwise (fun a b=>bz k a.1 b.1=true)->l[j]?=some r->cj k l r.1=j
 |[],j,r,h,D=>by simp at D
 |x::l,0,r,h,D=>by
  simp at D;subst D;rw[cj,Bp];simp
 |x::l,j+1,r,h,D=>by
  have J:=tz.1 h;have I:l[j]?=some r:=by simpa using D
  rw[cj,J.1 r (bF I),if_pos rfl,jy J.2 I]
theorem Gg (hq:v' q=v q++[e]):∀{l:List (Int×Nat)},l[cj k l p]?=some (p,q)->(l.map (·.2)).Nodup->(∀r∈l,r.2≠q->v' r.2=v r.2)->mo k (dB v l) p e=dB v' l
 |[],h,_,_=>by simp at h
 |r::l,h,hn,hv=>by
  rw[cj] at h;have D:=yk.1 hn;show mo k ((r.1,v r.2)::dB v l) p e=(r.1,v' r.2)::dB v' l;rw[mo]
  by_cases O:bz k r.1 p=true
  ·rw[if_pos O] at h⊢
   have h':l[cj k l p]?=some (p,q):=by simpa using h
   have I:r.2≠q:=by
    rintro rfl;exact D.1 (aV.2 ⟨_,bF h',rfl⟩)
   rw[Gg hq h' D.2 (fun r hr J=>hv r (by simp[hr]) J),hv r bT I]
  ·rw[if_neg O] at h⊢
   simp at h;subst h;simp only[if_true];rw[hq,nN (v:=v) (v':=v') (l:=l) fun r hr=>(hv r (by simp[hr]) (by rintro rfl;exact D.1 (aV.2 ⟨r,hr,rfl⟩))).symm]
theorem xC (hq:v' q=[e]):∀{l:List (Int×Nat)},jx l (cj k l p) p=false->(∀r∈l,v' r.2=v r.2)->mo k (dB v l) p e=dB v' (ua k l p q)
 |[],_,_=>by simp[dB,mo,ua,hq]
 |r::l,h,hv=>by
  rw[Bt] at h;rw[Ep];show mo k ((r.1,v r.2)::dB v l) p e=_;rw[mo]
  by_cases D:bz k r.1 p=true
  ·rw[if_pos D] at h⊢
   rw[if_pos D,xC hq h (fun r hr=>hv r (by simp[hr])),<-hv r bT];rfl
  ·rw[if_neg D] at h⊢
   rw[if_neg D,if_neg (by simpa using h)];show _=(p,v' q)::dB v' (r::l);rw[hq,nN (v:=v') (v':=v) fun r hr=>hv r hr];rfl
theorem IJ (k:Nat) (v:Nat->List dn) (l:List (Int×Nat)) (p:Int):Kd k (dB v l) p=match l with|[]=>true|r::_=>bz k p r.1:=by
 cases l<;>rfl
def th (l:List iQ) (has:Bool) (top:Int):Prop:=
 (∀r∈l,∀e∈r.2,(e.top=true↔has=true∧e.id=top))∧(has=true→∃r∈l,∃e∈r.2,e.id=top)
theorem Bu:∀{l:List iQ} {r:iQ} {x:dn},r∈mo k l p e->x∈r.2->x=e\/∃r'∈l,x∈r'.2
 |[],r,x,h,hx=>by
  simp[mo] at h;subst h;simp at hx;exact .inl hx
 |y::l,r,x,h,hx=>by
  rw[mo] at h
  split at h
  ·rcases a9.1 h with rfl|h
   ·exact .inr ⟨r,bT,hx⟩
   ·rcases Bu h hx with D|⟨r',D,I⟩
    ·exact .inl D
    ·exact .inr ⟨r',by simp[D],I⟩
  ·split at h
   ·rcases a9.1 h with rfl|h
    ·simp at hx
     rcases hx with hx|hx
     ·exact .inr ⟨y,bT,hx⟩
     ·exact .inl hx
    ·exact .inr ⟨r,by simp[h],hx⟩
   ·rcases a9.1 h with rfl|h
    ·simp at hx;exact .inl hx
    ·exact .inr ⟨r,h,hx⟩
theorem IK {k:Nat} {p:Int} {e:dn}:∀{l:List iQ},∃r∈mo k l p e,e∈r.2
 |[]=>⟨(p,[e]),by simp[mo],bT⟩
 |y::l=>by
  rw[mo]
  split
  ·obtain⟨r,D,I⟩:=IK (k:=k) (p:=p) (e:=e) (l:=l)
   exact⟨r,by simp[D],I⟩
  ·split
   ·exact⟨_,cg ..,bT⟩
   ·exact⟨_,cg ..,bT⟩
theorem IL {k:Nat} {p:Int} {e:dn}:∀{l:List iQ} {r:iQ} {x:dn},r∈l->x∈r.2->∃r'∈mo k l p e,x∈r'.2
 |y::l,r,x,h,hx=>by
  rw[mo]
  split
  ·rcases a9.1 h with rfl|h
   ·exact⟨r,bT,hx⟩
   ·obtain⟨r',D,I⟩:=IL (k:=k) (p:=p) (e:=e) h hx
    exact⟨r',by simp[D],I⟩
  ·split
   ·rcases a9.1 h with rfl|h
    ·exact⟨_,cg ..,by simp[hx]⟩
    ·exact⟨r,by simp[h],hx⟩
   ·exact⟨r,bB _ h,hx⟩
theorem th.added {l:List iQ} {q:Int} (h:th l has top) (J:∀r∈l,∀e∈r.2,e.id≠id):
  th (jo k l id p q) (if Kd k l p=true then true else has) (if Kd k l p=true then id else top):=by
 unfold jo
 by_cases hf:Kd k l p=true
 ·simp only[hf,if_true]
  refine⟨fun r hr e he=>?_,fun _=>?_⟩
  ·rcases Bu hr he with rfl|⟨r',D,I⟩
   ·simp
   ·obtain⟨r0,O,rfl⟩:=aV.1 D
    obtain⟨e0,h4,rfl⟩:=aV.1 I;simp[Br,J r0 O e0 h4]
  ·obtain⟨r,D,I⟩:=IK (k:=k) (p:=p) (e:=⟨id,q,true⟩) (l:=yx l)
   exact⟨r,D,_,I,rfl⟩
 ·have ax:Kd k l p=false:=by simpa using hf
  simp only[ax,dm,if_false];refine⟨fun r hr e he=>?_,fun hh=>?_⟩
  ·rcases Bu hr he with rfl|⟨r',D,I⟩
   ·constructor
    ·intro h0;cases h0
    ·rintro⟨D,I⟩
     obtain⟨r,O,e,h4,h5⟩:=h.2 D;exact absurd (h5.trans I.symm) (J r O e h4)
   ·exact h.1 r' D e I
  ·obtain⟨r,O,e,h4,h5⟩:=h.2 hh
   obtain⟨r',h6,h7⟩:=IL (k:=k) (p:=p) (e:=⟨id,q,false⟩) O h4;exact⟨r',h6,e,h7,h5⟩
theorem ve {q:Int} (h:fS id q e=some x):x.id=e.id/\x.top=e.top:=by
 unfold fS at h
 split at h
 ·split at h
  ·cases h
  ·injection h with h;subst h;exact⟨rfl,rfl⟩
 ·injection h with h;subst h;exact⟨rfl,rfl⟩
theorem IM {q:Int} {l:List iQ} {r:iQ} (h:r∈kZ id q l) (hx:x∈r.2):∃r'∈l,∃e∈r'.2,fS id q e=some x:=by
 have D:=(lX.1 h).1;obtain⟨r',I,rfl⟩:=aV.1 D;obtain⟨e,J,O⟩:=ee.1 hx;exact⟨r',I,e,J,O⟩
theorem rh {q:Int} {l:List iQ} {r:iQ} (h:r∈l) (he:e∈r.2) (hx:fS id q e=some x):∃r'∈kZ id q l,x∈r'.2:=by
 have D:x∈(yy id q r).2:=ee.2 ⟨e,he,hx⟩;refine⟨yy id q r,lX.2 ⟨aV.2 ⟨r,h,rfl⟩,?_⟩,D⟩
 cases I:(yy id q r).2 with
 |nil=>rw[I] at D;cases D
 |cons a b=>rfl
theorem th.cut {l:List iQ} {q:Int} (h:th l has top):(∀r∈kZ id q l,∀e∈r.2,(e.top=true↔has=true/\e.id=top)):=fun r hr e he=>by
 obtain⟨r',D,e',I,J⟩:=IM hr he;obtain⟨O,h5⟩:=ve J;rw[O,h5];exact h.1 r' D e' I
theorem th.OM {l:List iQ} {q:Int} (h:th l has top) (D:has=true->top≠id):th (kZ id q l) has top:=by
 refine⟨h.cut,fun I=>?_⟩;obtain⟨r,O,e,h2,J⟩:=h.2 I;have h4:fS id q e=some e:=by unfold fS;rw[if_neg];rw[J];exact D I
 obtain⟨r',h5,h6⟩:=rh O h2 h4;exact⟨r',h5,e,h6,J⟩
theorem th.xD {l:List iQ} {q:Int} (h:th l has top) (D:top=id) (hg:∀r∈kZ id q l,∀e∈r.2,e.id≠id):th (kZ id q l) false top:=by
 refine⟨fun r hr e he=>?_,fun I=>by cases I⟩;rw[h.cut r hr e he];constructor
 ·rintro⟨_,J⟩;exact absurd (J.trans D) (hg r hr e he)
 ·rintro⟨O,_⟩;cases O
structure cZ (ok:Nat→Prop) (l0 l1:List (Int×Nat)) (sp:List Nat) (f:Int→Option Value) (n:Nat) (Ls:List (List Nat)) (aK:Nat→dn):Prop where
 perm:(l0.map (·.2)++l1.map (·.2)++sp).Perm (List.range Ls.length)
 ox:∀r∈l0,∃L,Ls[r.2]?=some L∧(L=[]→ok r.2)
 oy:∀r∈l1,∃L,Ls[r.2]?=some L∧(L=[]→ok r.2)
 dead:∀q∈sp,Ls[q]?=some []
 oU:l0.Pairwise (fun a b=>bz 0 a.1 b.1=true)
 oV:l1.Pairwise (fun a b=>bz 1 a.1 b.1=true)
 yz:∀r∈l0,∀L,Ls[r.2]?=some L→∀i∈L,f (aK i).id=some (cR 1 r.1 i)∧dZ (aK i).id
 yA:∀r∈l1,∀L,Ls[r.2]?=some L→∀i∈L,f (aK i).id=some (cR 2 r.1 i)∧dZ (aK i).id
 all:∀y v,f y=some v→∃(p:Int) (m i:Nat) (L:List Nat),Ls[m]?=some L∧i∈L∧(aK i).id=y∧(((p,m)∈l0∧v=cR 1 p i)∨((p,m)∈l1∧v=cR 2 p i))
 cnt:n=oQ Ls
theorem mF {s s' D:Int} {I:Nat} (h:cR s p i=cR s' D I):s=s'/\p=D/\i=I:=by
 unfold cR at h;injection h with h;simp at h;omega
theorem cZ.nodup (h:cZ ok l0 l1 sp f n Ls aK):(l0.map (·.2)++l1.map (·.2)++sp).Nodup:=
 h.perm.nodup_iff.2 List.nodup_range
theorem cZ.lens (h:cZ ok l0 l1 sp f n Ls aK):l0.length+l1.length+sp.length=Ls.length:=by
 have:=h.perm.length_eq;simp at this;omega
theorem cZ.mono {ok':Nat->Prop} (h:cZ ok l0 l1 sp f n Ls aK)
  (J:∀q,q∈l0.map (·.2)\/q∈l1.map (·.2)->Ls[q]?=some []->ok q->ok' q):cZ ok' l0 l1 sp f n Ls aK:=
 ⟨h.perm,fun r hr=>by obtain⟨L,D,I⟩:=h.ox r hr;exact⟨L,D,fun e=>J _ (.inl (aV.2 ⟨r,hr,rfl⟩)) (by rw[D,e]) (I e)⟩,
  fun r hr=>by obtain⟨L,D,I⟩:=h.oy r hr;exact⟨L,D,fun e=>J _ (.inr (aV.2 ⟨r,hr,rfl⟩)) (by rw[D,e]) (I e)⟩,h.dead,h.oU,h.oV,h.yz,h.yA,h.all,h.cnt⟩
theorem cZ.I (h:cZ ok l0 l1 sp f n Ls aK) (he:∀i,(ent' i).id=(aK i).id):cZ ok l0 l1 sp f n Ls ent':=
 ⟨h.perm,h.ox,h.oy,h.dead,h.oU,h.oV,fun r hr L D i hi=>by rw[he];exact h.yz r hr L D i hi,fun r hr L D i hi=>by rw[he];exact h.yA r hr L D i hi,
  fun y v J=>by obtain⟨p,m,i,L,O,h2,h3,h4⟩:=h.all y v J;exact⟨p,m,i,L,O,h2,(he i).trans h3,h4⟩,h.cnt⟩
theorem KT (Ls:List (List Nat)):oQ (Ls++[[]])=oQ Ls:=by simp[oQ]
theorem Es (h:(Ls++[[]])[m]?=some L):Ls[m]?=some L\/(m=Ls.length/\L=[]):=by
 by_cases hm:m<Ls.length
 ·rw[bX hm] at h;exact .inl h
 ·rw[bK ae] at h
  have D:=(az.1 h).1;simp at D;have:m - Ls.length=0:=ae;rw[this] at h;simp at h;exact .inr ⟨ae,h⟩
theorem xE (h:Ls[m]?=some L):(Ls++[[]])[m]?=some L:=by
 rw[bX (aO h)];exact h
theorem cZ.Ro (h:cZ ok l0 l1 (sp++[q]) f n Ls aK) (p:Int) (hh:jx l0 (cj 0 l0 p) p=false) (J:ok q):
  cZ ok (ua 0 l0 p q) l1 sp f n Ls aK:=by
 have hm:∀{r},r∈ua 0 l0 p q->r=(p,q)\/r∈l0:=fun hr=>a9.1 ((jP 0 l0 p q).mem_iff.1 hr);have O:∀{r},r∈l0->r∈ua 0 l0 p q:=fun hr=>(jP 0 l0 p q).mem_iff.2 (bB _ hr);have hq:Ls[q]?=some []:=h.dead q bT;refine⟨?_,fun r hr=>?_,h.oy,fun x hx=>h.dead x (by simp[hx]),ud h.oU hh,h.oV,fun r hr L D i hi=>?_,h.yA,fun y v hy=>?_,h.cnt⟩
 ·refine List.Perm.trans ?_ h.perm
  have h1:=(jP 0 l0 p q).map (·.2);have h2:(List.map (·.2) (ua 0 l0 p q)++List.map (·.2) l1++sp).Perm (((p,q)::l0).map (·.2)++List.map (·.2) l1++sp):=(h1.append_right _).append_right _;refine h2.trans ?_;show(q::(List.map (·.2) l0++List.map (·.2) l1++sp)).Perm _;rw[<-bD];exact(qg (l₁:=[q]) (l₂:=List.map (·.2) l0++List.map (·.2) l1++sp))
 ·rcases hm hr with rfl|hr
  ·exact⟨[],hq,fun _=>J⟩
  ·exact h.ox r hr
 ·rcases hm hr with rfl|hr
  ·simp only at D;rw[hq] at D;injection D with D;subst D;cases hi
  ·exact h.yz r hr L D i hi
 ·obtain⟨p',m,i,L,h1,h2,h3,I⟩:=h.all y v hy
  refine⟨p',m,i,L,h1,h2,h3,?_⟩;rcases I with⟨I,h5⟩|I
  ·exact .inl ⟨O I,h5⟩
  ·exact .inr I
theorem cZ.Rp (h:cZ ok l0 l1 (sp++[q]) f n Ls aK) (p:Int) (hh:jx l1 (cj 1 l1 p) p=false) (J:ok q):
  cZ ok l0 (ua 1 l1 p q) sp f n Ls aK:=by
 have hm:∀{r},r∈ua 1 l1 p q->r=(p,q)\/r∈l1:=fun hr=>a9.1 ((jP 1 l1 p q).mem_iff.1 hr);have O:∀{r},r∈l1->r∈ua 1 l1 p q:=fun hr=>(jP 1 l1 p q).mem_iff.2 (bB _ hr);have hq:Ls[q]?=some []:=h.dead q bT;refine⟨?_,h.ox,fun r hr=>?_,fun x hx=>h.dead x (by simp[hx]),h.oU,ud h.oV hh,h.yz,fun r hr L D i hi=>?_,fun y v hy=>?_,h.cnt⟩
 ·refine List.Perm.trans ?_ h.perm
  have h1:=(jP 1 l1 p q).map (·.2);have h2:(List.map (·.2) l0++List.map (·.2) (ua 1 l1 p q)++sp).Perm (List.map (·.2) l0++((p,q)::l1).map (·.2)++sp):=(h1.append_left _).append_right _;refine h2.trans ?_;show(List.map (·.2) l0++q::List.map (·.2) l1++sp).Perm _;rw[<-bD];refine(List.perm_middle.append_right sp).trans ?_;exact(qg (l₁:=[q]) (l₂:=List.map (·.2) l0++List.map (·.2) l1++sp))
 ·rcases hm hr with rfl|hr
  ·exact⟨[],hq,fun _=>J⟩
  ·exact h.oy r hr
 ·rcases hm hr with rfl|hr
  ·simp only at D;rw[hq] at D;injection D with D;subst D;cases hi
  ·exact h.yA r hr L D i hi
 ·obtain⟨p',m,i,L,h1,h2,h3,I⟩:=h.all y v hy
  refine⟨p',m,i,L,h1,h2,h3,?_⟩;rcases I with I|⟨I,h5⟩
  ·exact .inl I
  ·exact .inr ⟨O I,h5⟩
theorem cZ.opened (h:cZ ok l0 l1 sp f n Ls aK):cZ ok l0 l1 (sp++[Ls.length]) f n (Ls++[[]]) aK:=by
 refine⟨?_,fun r hr=>?_,fun r hr=>?_,fun x hx=>?_,h.oU,h.oV,fun r hr L D i hi=>?_,fun r hr L D i hi=>?_,fun y v O=>?_,by rw[KT];exact h.cnt⟩
 ·rw[<-bD]
  simp only[aC,List.length_singleton,yl];exact h.perm.append_right _
 ·obtain⟨L,I,J⟩:=h.ox r hr;exact⟨L,xE I,J⟩
 ·obtain⟨L,I,J⟩:=h.oy r hr;exact⟨L,xE I,J⟩
 ·rcases aJ.1 hx with hx|hx
  ·exact xE (h.dead x hx)
  ·simp at hx;subst hx;simp
 ·rcases Es D with D|⟨_,rfl⟩
  ·exact h.yz r hr L D i hi
  ·cases hi
 ·rcases Es D with D|⟨_,rfl⟩
  ·exact h.yA r hr L D i hi
  ·cases hi
 ·obtain⟨p',m,i,L,I,J,h3,h4⟩:=h.all y v O
  exact⟨p',m,i,L,xE I,J,h3,h4⟩
theorem ri (h:(Ls.set q M)[m]?=some L):(m=q/\L=M)\/(m≠q/\Ls[m]?=some L):=mm h
theorem oz (h:Ls[q]?=some L):(Ls.set q M)[q]?=some M:=aD (aO h)
theorem pz (h:Ls[m]?=some L) (hm:m≠q):(Ls.set q M)[m]?=some L:=by rw[aZ (fun e=>hm e.symm)];exact h
theorem IN {α:Type} (L:List α) (k j:Nat):(L.eraseIdx k)[j]?=L[if j<k then j else j+1]?:=by
 rw[Vl];split<;>rfl
theorem cZ.ON (h:cZ ok l0 l1 sp f n Ls aK) (hr:(p,q)∈l0):
  (∀r∈l0,r.2=q->r=(p,q))/\(∀r∈l1,r.2≠q)/\(∀x∈sp,x≠q):=by
 have hn:=h.nodup;rw[bD,dw] at hn;obtain⟨h1,_,J⟩:=hn;have hq:q∈l0.map (·.2):=aV.2 ⟨_,hr,rfl⟩;refine⟨fun r D he=>?_,fun r D he=>?_,fun x hx he=>?_⟩
 ·obtain⟨a,ha⟩:=aG D
  obtain⟨b,I⟩:=aG hr;have O:(l0.map (·.2))[a]?=some q:=by rw[bo,ha];simp[he]
  have h5:(l0.map (·.2))[b]?=some q:=by rw[bo,I];rfl
  have h6:a=b:=by
   have:=(vD (aO O) h1).1 (O.trans h5.symm);exact this
  subst h6;rw[ha] at I;injection I
 ·exact J q hq r.2 (by simp;exact .inl ⟨r.1,D⟩) he.symm
 ·exact J q hq x (by simp[hx]) he.symm
theorem cZ.OO (h:cZ ok l0 l1 sp f n Ls aK) (hr:(p,q)∈l1):
  (∀r∈l1,r.2=q->r=(p,q))/\(∀r∈l0,r.2≠q)/\(∀x∈sp,x≠q):=by
 have hn:=h.nodup;rw[bD,dw] at hn;obtain⟨_,hn,O⟩:=hn;obtain⟨h1,_,h3⟩:=dw.1 hn;have hq:q∈l1.map (·.2):=aV.2 ⟨_,hr,rfl⟩;refine⟨fun r D he=>?_,fun r D he=>?_,fun x hx he=>?_⟩
 ·obtain⟨a,ha⟩:=aG D
  obtain⟨b,I⟩:=aG hr;have J:(l1.map (·.2))[a]?=some q:=by rw[bo,ha];simp[he]
  have h5:(l1.map (·.2))[b]?=some q:=by rw[bo,I];rfl
  have h6:a=b:=by
   have:=(vD (aO J) h1).1 (J.trans h5.symm);exact this
  subst h6;rw[ha] at I;injection I
 ·exact O r.2 (aV.2 ⟨r,D,rfl⟩) q (aJ.2 (.inl hq)) he
 ·exact h3 q hq x hx he.symm
namespace Ka
abbrev Bv {α:Type} [OfNat α (nat_lit 1)]:α:=OfNat.ofNat (nat_lit 1)
abbrev ue:=@cZ.ON
end Ka
theorem XD {p:Prop} (h:p:=by (try dsimp only [Bv,ue] at *);omega):p:=h
theorem Vz (z:G:=by
 obtain⟨s1,s2,s3⟩:=ue h hr;have ay:∀{m:Nat} {M:List Nat} {j:Nat},Ls[m]?=some M->j∈M->j≠i:=fun hM I e=>hi _ _ hM (e▸I);have lv:∀(r:Int×Nat),(∃M,Ls[r.2]?=some M/\(M=[]->r.2=q))->∃M,(Ls.set q (L++[i]))[r.2]?=some M/\(M=[]->False):=by
  rintro r⟨M,D,O⟩
  by_cases hq:r.2=q
  ·rw[hq]
   exact⟨L++[i],oz hL,by simp⟩
  ·exact⟨M,pz D hq,fun e=>hq (O e)⟩
 have QI:∀{j:Nat} {M:List Nat} {m:Nat} (v:Value),Ls[m]?=some M->j∈M->(f (aK j).id=some v/\dZ (aK j).id)->((if (if j=i then e else aK j).id=e.id then some (cR Bv p i) else f (if j=i then e else aK j).id)=some v/\dZ (if j=i then e else aK j).id):=by
  intro j M m v hM I⟨D,O⟩;rw[if_neg (ay hM I)];refine⟨?_,O⟩;rw[if_neg]
  ·exact D
  ·intro e1;rw[e1,hf] at D;cases D
 refine⟨by rw[jn];exact h.perm,fun r hr=>lv r (h.ox r hr),fun r hr=>lv r (h.oy r hr),fun x hx=>pz (h.dead x hx) (s3 x hx),h.oU,h.oV,fun r J M hM j I=>?_,fun r J M hM j I=>?_,fun y v hy=>?_,?_⟩
 ·rcases ri hM with⟨D,rfl⟩|⟨D,O⟩
  ·first
   |exact absurd D (s2 r J)
   |rcases aJ.1 I with I|I
    ·exact QI _ hL I (h.yz r J L (by rw[D];exact hL) j I)
    ·simp at I
     subst I;rw[if_pos rfl,if_pos rfl,s1 r J D];exact⟨rfl,hid⟩
  ·exact QI _ O I (h.yz r J M O j I)
 ·rcases ri hM with⟨D,rfl⟩|⟨D,O⟩
  ·first
   |exact absurd D (s2 r J)
   |rcases aJ.1 I with I|I
    ·exact QI _ hL I (h.yA r J L (by rw[D];exact hL) j I)
    ·simp at I
     subst I;rw[if_pos rfl,if_pos rfl,s1 r J D];exact⟨rfl,hid⟩
  ·exact QI _ O I (h.yA r J M O j I)
 ·by_cases ax:y=e.id
  ·rw[if_pos ax] at hy
   injection hy with hy;refine⟨p,q,i,L++[i],oz hL,by simp,by rw[if_pos rfl,ax],?_⟩
   first
   |exact .inl ⟨hr,hy.symm⟩
   |exact .inr ⟨hr,hy.symm⟩
  ·rw[if_neg ax] at hy
   obtain⟨p',m,j,M,D,O,h3,h4⟩:=h.all y v hy;have h5:=ay D O
   by_cases hm:m=q
   ·subst hm
    rw[hL] at D;injection D with D;subst D;exact⟨p',m,j,L++[i],oz hL,by simp[O],by rw[if_neg h5];exact h3,h4⟩
   ·exact⟨p',m,j,M,pz D hm,O,by rw[if_neg h5];exact h3,h4⟩
 ·have D:=uV hL (L++[i])
  rw[aC] at D;simp at D;have:=h.cnt;exact XD
 ):G:=z
open Ka in
theorem cZ.XE (h:cZ (fun x=>x=q) l0 l1 sp f n Ls aK)
  (hr:(p,q)∈l0) (hL:Ls[q]?=some L) (hi:∀(m:Nat) (M:List Nat),Ls[m]?=some M->i∉M) (hf:f e.id=none) (hid:dZ e.id):
  cZ (fun _=>False) l0 l1 sp (fun y=>if y=e.id then some (cR 1 p i) else f y) (n+1) (Ls.set q (L++[i])) (fun x=>if x=i then e else aK x):=Vz
namespace Ka
abbrev Bx:=@cZ.yz
end Ka
theorem VA {p:Prop} (h:p:=by (try dsimp only [ue,Bx] at *);omega):p:=h
theorem VB (z:G:=by
 obtain⟨s1,s2,s3⟩:=ue h hr;have a5:=bF hi;have hf:=(Bx h _ hr L hL i a5).1;have a2:∀{m:Nat} {M:List Nat} {x:Nat} {r:Int×Nat} {v:Value},Ls[m]?=some M->x∈M->(∃s,f (aK x).id=some (cR s r.1 x))->(aK x).id=(aK i).id->x=i:=by
  rintro m M x r v hM hx⟨s,hs⟩ he;rw[he,hf] at hs;injection hs with hs;exact(mF hs).2.2.symm
 have ay:i∉L.eraseIdx j:=by
  intro hm;obtain⟨a,ha⟩:=aG hm;rw[mP] at ha;have:=(R.inj q L _ q L j i hL ha hL hi).2
  split at this<;>exact VA
 have lv:∀(r:Int×Nat),(∃M,Ls[r.2]?=some M/\(M=[]->False))->∃M,(Ls.set q (L.eraseIdx j))[r.2]?=some M/\(M=[]->r.2=q):=by
  rintro r⟨M,D,I⟩
  by_cases hq:r.2=q
  ·rw[hq]
   exact⟨L.eraseIdx j,oz hL,fun _=>rfl⟩
  ·exact⟨M,pz D hq,fun e=>(I e).elim⟩
 have QI:∀{x:Nat} {M M':List Nat} {m m':Nat} {r:Int×Nat} (s:Int),Ls[m]?=some M->x∈M->x≠i->(f (aK x).id=some (cR s r.1 x)/\dZ (aK x).id)->((if (aK x).id=(aK i).id then none else f (aK x).id)=some (cR s r.1 x)/\dZ (aK x).id):=by
  intro x M M' m m' r s hM hx a6⟨D,I⟩;refine⟨?_,I⟩;rw[if_neg fun e=>a6 (a2 (r:=r) (v:=cR s r.1 x) hM hx ⟨s,D⟩ e)];exact D
 have other:∀{m:Nat} {M:List Nat},m≠q->Ls[m]?=some M->i∉M:=by
  intro m M hm hM hx;obtain⟨a,ha⟩:=aG hx;exact hm (R.inj m M a q L j i hM ha hL hi).1
 refine⟨by rw[jn];exact h.perm,fun r hr=>lv r (h.ox r hr),fun r hr=>lv r (h.oy r hr),fun x hx=>pz (h.dead x hx) (s3 x hx),h.oU,h.oV,fun r J M hM x hx=>?_,fun r J M hM x hx=>?_,fun y v hy=>?_,?_⟩
 ·rcases ri hM with⟨D,rfl⟩|⟨D,I⟩
  ·have O:=cE hx
   have ax:Ls[r.2]?=some L:=by rw[D];exact hL
   exact QI (M':=L) (m':=q) _ ax O (fun e=>ay (e▸hx)) (h.yz r J L ax x O)
  ·exact QI (M':=L) (m':=q) _ I hx (fun e=>other D I (e▸hx)) (h.yz r J M I x hx)
 ·rcases ri hM with⟨D,rfl⟩|⟨D,I⟩
  ·have O:=cE hx
   have ax:Ls[r.2]?=some L:=by rw[D];exact hL
   exact QI (M':=L) (m':=q) _ ax O (fun e=>ay (e▸hx)) (h.yA r J L ax x O)
  ·exact QI (M':=L) (m':=q) _ I hx (fun e=>other D I (e▸hx)) (h.yA r J M I x hx)
 ·by_cases a0:y=(aK i).id
  ·rw[if_pos a0] at hy;cases hy
  ·rw[if_neg a0] at hy
   obtain⟨p',m,x,M,D,I,h3,h4⟩:=h.all y v hy
   by_cases hm:m=q
   ·subst hm
    rw[hL] at D;injection D with D;subst D;refine⟨p',m,x,L.eraseIdx j,oz hL,?_,h3,h4⟩;obtain⟨a,ha⟩:=aG I;refine qu.2 ⟨a,?_,ha⟩;rintro rfl;rw[hi] at ha;injection ha with ha;subst ha;exact a0 h3.symm
   ·exact⟨p',m,x,M,pz D hm,I,h3,h4⟩
 ·have D:=uV hL (L.eraseIdx j)
  rw[iU,if_pos (aO hi)] at D;have I:=h.cnt;have h3:=aO hi;have h4:=yt hL;exact VA
 ):G:=z
open Ka in
theorem cZ.Rq (h:cZ (fun _=>False) l0 l1 sp f n Ls aK) (R:fB X Ls aK)
  (hr:(p,q)∈l0) (hL:Ls[q]?=some L) (hi:L[j]?=some i):
  cZ (fun x=>x=q) l0 l1 sp (fun y=>if y=(aK i).id then none else f y) (n - 1) (Ls.set q (L.eraseIdx j)) aK:=VB
theorem cZ.Rr (h:cZ (fun x=>x=q) l0 l1 sp f n Ls aK) (hr:l0[j]?=some (p,q)) (hL:Ls[q]?=some []):
  cZ (fun _=>False) (if 0=0 then l0.eraseIdx j else l0) (if 1=0 then l1.eraseIdx j else l1) (sp++[q]) f n Ls aK:=by
 obtain⟨s1,s2,s3⟩:=h.ON (bF hr);have ay:(l0.map (·.2)).Nodup:=by
  have:=h.nodup;rw[bD,dw] at this
  first
  |exact this.1
  |exact(dw.1 this.2.1).1
 have a0:∀{r},r∈l0.eraseIdx j->r.2≠q:=by
  intro r hx e;have D:=s1 r (cE hx) e;subst D;obtain⟨a,ha⟩:=aG hx;rw[IN] at ha;have e1:(l0.map (·.2))[j]?=some q:=by rw[bo,hr];rfl
  have e2:(l0.map (·.2))[if a<j then a else a+1]?=some q:=by rw[bo,ha];rfl
  have:=(vD (aO e1) ay).1 (e1.trans e2.symm)
  split at this<;>omega
 have I:∀{r},r∈l0->r.2≠q->r∈l0.eraseIdx j:=by
  intro r hx a2;obtain⟨a,ha⟩:=aG hx;refine qu.2 ⟨a,?_,ha⟩;rintro rfl;rw[hr] at ha;injection ha with ha;subst ha;exact a2 rfl
 have hp:(l0.map (·.2)).Perm (q::(l0.eraseIdx j).map (·.2)):=by
  have hj:=aO hr;have e1:l0=l0.take j++(p,q)::l0.drop (j+1):=by
   have D:l0[j]=(p,q):=(az.1 hr).2;have O:=iB hj;rw[D] at O;rw[<-O,iG]
  have e2:l0.eraseIdx j=l0.take j++l0.drop (j+1):=p9 ..;rw[e2];have e3:(l0.take j++(p,q)::l0.drop (j+1)).Perm ((p,q)::(l0.take j++l0.drop (j+1))):=nw;rw[<-e1] at e3;exact e3.map (·.2)
 have L1:∀r,r∈l0.eraseIdx j->∃L,Ls[r.2]?=some L/\(L=[]->False):=fun r hx=>by
  obtain⟨L,D,O⟩:=h.ox r (cE hx);exact⟨L,D,fun e=>a0 hx (O e)⟩
 have L2:∀r,r∈l1->∃L,Ls[r.2]?=some L/\(L=[]->False):=fun r hx=>by
  obtain⟨L,D,O⟩:=h.oy r hx;exact⟨L,D,fun e=>s2 r hx (O e)⟩
 have hd:∀x∈sp++[q],Ls[x]?=some []:=fun x hx=>by
  rcases aJ.1 hx with hx|hx
  ·exact h.dead x hx
  ·simp at hx;subst hx;exact hL
 have J:=h.oU.sublist (V7 l0 j);simp only[if_true,if_false,reduceIte,ym,yn];refine⟨?_,by first|exact L1|exact L2,by first|exact L1|exact L2,hd,by first|exact J|exact h.oU,by first|exact J|exact h.oV,fun r hx=>h.yz r (by first|exact hx|exact cE hx),fun r hx=>h.yA r (by first|exact hx|exact cE hx),fun y v hy=>?_,h.cnt⟩
 ·refine List.Perm.trans ?_ h.perm
  rw[<-bD];refine(qg (l₂:=[q])).trans ?_;show(q::(_++_++sp)).Perm _
  first
  |exact(((hp.append_right (l1.map (·.2))).append_right sp)).symm
  |exact(((hp.append_left (l0.map (·.2))).append_right sp).trans ((nw).append_right sp)).symm
 ·obtain⟨p',m,x,L,D,O,h3,h4⟩:=h.all y v hy
  refine⟨p',m,x,L,D,O,h3,?_⟩;have ax:m≠q:=by
   rintro rfl;rw[hL] at D;injection D with D;subst D
   cases O
  rcases h4 with⟨h4,h5⟩|⟨h4,h5⟩
  ·exact .inl ⟨by first|exact h4|exact I h4 ax,h5⟩
  ·exact .inr ⟨by first|exact h4|exact I h4 ax,h5⟩
namespace Kb
abbrev Bv {α:Type} [OfNat α (nat_lit 2)]:α:=OfNat.ofNat (nat_lit 2)
abbrev ue:=@cZ.OO
end Kb
open Kb in
theorem cZ.XF (h:cZ (fun x=>x=q) l0 l1 sp f n Ls aK)
  (hr:(p,q)∈l1) (hL:Ls[q]?=some L) (hi:∀(m:Nat) (M:List Nat),Ls[m]?=some M->i∉M) (hf:f e.id=none) (hid:dZ e.id):
  cZ (fun _=>False) l0 l1 sp (fun y=>if y=e.id then some (cR 2 p i) else f y) (n+1) (Ls.set q (L++[i])) (fun x=>if x=i then e else aK x):=Vz
namespace Kb
abbrev Bx:=@cZ.yA
end Kb
open Kb in
theorem cZ.Rs (h:cZ (fun _=>False) l0 l1 sp f n Ls aK) (R:fB X Ls aK)
  (hr:(p,q)∈l1) (hL:Ls[q]?=some L) (hi:L[j]?=some i):
  cZ (fun x=>x=q) l0 l1 sp (fun y=>if y=(aK i).id then none else f y) (n - 1) (Ls.set q (L.eraseIdx j)) aK:=VB
theorem cZ.Rt (h:cZ (fun x=>x=q) l0 l1 sp f n Ls aK) (hr:l1[j]?=some (p,q)) (hL:Ls[q]?=some []):
  cZ (fun _=>False) (if 0=1 then l0.eraseIdx j else l0) (if 1=1 then l1.eraseIdx j else l1) (sp++[q]) f n Ls aK:=by
 obtain⟨s1,s2,s3⟩:=h.OO (bF hr);have ay:(l1.map (·.2)).Nodup:=by
  have:=h.nodup;rw[bD,dw] at this
  first
  |exact this.1
  |exact(dw.1 this.2.1).1
 have a0:∀{r},r∈l1.eraseIdx j->r.2≠q:=by
  intro r hx e;have D:=s1 r (cE hx) e;subst D;obtain⟨a,ha⟩:=aG hx;rw[IN] at ha;have e1:(l1.map (·.2))[j]?=some q:=by rw[bo,hr];rfl
  have e2:(l1.map (·.2))[if a<j then a else a+1]?=some q:=by rw[bo,ha];rfl
  have:=(vD (aO e1) ay).1 (e1.trans e2.symm)
  split at this<;>omega
 have I:∀{r},r∈l1->r.2≠q->r∈l1.eraseIdx j:=by
  intro r hx a2;obtain⟨a,ha⟩:=aG hx;refine qu.2 ⟨a,?_,ha⟩;rintro rfl;rw[hr] at ha;injection ha with ha;subst ha;exact a2 rfl
 have hp:(l1.map (·.2)).Perm (q::(l1.eraseIdx j).map (·.2)):=by
  have hj:=aO hr;have e1:l1=l1.take j++(p,q)::l1.drop (j+1):=by
   have D:l1[j]=(p,q):=(az.1 hr).2;have O:=iB hj;rw[D] at O;rw[<-O,iG]
  have e2:l1.eraseIdx j=l1.take j++l1.drop (j+1):=p9 ..;rw[e2];have e3:(l1.take j++(p,q)::l1.drop (j+1)).Perm ((p,q)::(l1.take j++l1.drop (j+1))):=nw;rw[<-e1] at e3;exact e3.map (·.2)
 have L1:∀r,r∈l1.eraseIdx j->∃L,Ls[r.2]?=some L/\(L=[]->False):=fun r hx=>by
  obtain⟨L,D,O⟩:=h.oy r (cE hx);exact⟨L,D,fun e=>a0 hx (O e)⟩
 have L2:∀r,r∈l0->∃L,Ls[r.2]?=some L/\(L=[]->False):=fun r hx=>by
  obtain⟨L,D,O⟩:=h.ox r hx;exact⟨L,D,fun e=>s2 r hx (O e)⟩
 have hd:∀x∈sp++[q],Ls[x]?=some []:=fun x hx=>by
  rcases aJ.1 hx with hx|hx
  ·exact h.dead x hx
  ·simp at hx;subst hx;exact hL
 have J:=h.oV.sublist (V7 l1 j);simp only[if_true,if_false,reduceIte,ym,yn];refine⟨?_,by first|exact L1|exact L2,by first|exact L1|exact L2,hd,by first|exact J|exact h.oU,by first|exact J|exact h.oV,fun r hx=>h.yz r (by first|exact hx|exact cE hx),fun r hx=>h.yA r (by first|exact hx|exact cE hx),fun y v hy=>?_,h.cnt⟩
 ·refine List.Perm.trans ?_ h.perm
  rw[<-bD];refine(qg (l₂:=[q])).trans ?_;show(q::(_++_++sp)).Perm _
  first
  |exact(((hp.append_right (l1.map (·.2))).append_right sp)).symm
  |exact(((hp.append_left (l0.map (·.2))).append_right sp).trans ((nw).append_right sp)).symm
 ·obtain⟨p',m,x,L,D,O,h3,h4⟩:=h.all y v hy
  refine⟨p',m,x,L,D,O,h3,?_⟩;have ax:m≠q:=by
   rintro rfl;rw[hL] at D;injection D with D;subst D
   cases O
  rcases h4 with⟨h4,h5⟩|⟨h4,h5⟩
  ·exact .inl ⟨by first|exact h4|exact I h4 ax,h5⟩
  ·exact .inr ⟨by first|exact h4|exact I h4 ax,h5⟩
def kD (C:dK) (Ls:List (List Nat)) (aK:Nat→dn):BM:=⟨dB (dL Ls aK) C.s0.l,dB (dL Ls aK) C.s1.l⟩
structure eX (C:dK) (Ls:List (List Nat)) (aK:Nat→dn):Prop where
 core:cZ (fun _=>False) C.s0.l C.s1.l C.spare C.f C.n Ls aK
 yB:th (dB (dL Ls aK) C.s0.l) C.s0.has C.s0.top
 KU:th (dB (dL Ls aK) C.s1.l) C.s1.has C.s1.top
theorem iH {r:iQ} (h:r∈dB v l):∃x∈l,r=(x.1,v x.2):=by
 obtain⟨x,hx,rfl⟩:=aV.1 h;exact⟨x,hx,rfl⟩
theorem OQ (v:Nat->List dn) (l:List (Int×Nat)):yx (dB v l)=dB (fun q=>(v q).map Br) l:=by
 unfold yx dB;rw[di];rfl
theorem eX.VC (h:eX C Ls aK) (hr:r∈C.s0.l) (D:Ls[r.2]?=some L) (hi:i∈L):C.f (aK i).id=some (cR 1 r.1 i)/\dZ (aK i).id:=h.core.yz r hr L D i hi
theorem eX.VD (h:eX C Ls aK) (hr:r∈C.s1.l) (D:Ls[r.2]?=some L) (hi:i∈L):C.f (aK i).id=some (cR 2 r.1 i)/\dZ (aK i).id:=h.core.yA r hr L D i hi
theorem eX.Wn (h:eX C Ls aK):KO C Ls aK:=fun O=>by
 obtain⟨r,h1,e,h2,h3⟩:=h.yB.2 O;obtain⟨x,hx,rfl⟩:=iH h1;obtain⟨L,i,D,hi,he⟩:=lj h2;obtain⟨I,J⟩:=h.VC hx D hi;obtain⟨j,hj⟩:=aG hi;rw[he,h3] at I J;exact⟨J,x.1,x.2,j,i,L,I,D,hj⟩
namespace Ka
abbrev uf:=@eX.yB
abbrev ug:=@eX.VC
abbrev By:=@eX.VD
end Ka
theorem XG {p:Prop} (h:p:=by (try dsimp only [uf,ug,By] at *);omega):p:=h
theorem VE (z:G:=by
 rcases hl with⟨rfl,rfl,rfl⟩|⟨rfl,X1,rfl,hE⟩
 ·exact⟨fun _=>rfl,⟨rfl,rfl,rfl,rfl,rfl⟩,rfl,rfl,rfl,rfl,rfl⟩
 ·refine⟨?_,⟨rfl,rfl,rfl,rfl,rfl⟩,?_,?_,rfl,rfl,rfl⟩
  ·rcases hE with⟨_,rfl⟩|⟨_,p,i,_,rfl⟩
   ·exact fun _=>rfl
   ·intro x
    by_cases hx:x=i
    ·subst hx;simp
    ·simp[hx]
  ·rw[if_pos rfl,OQ]
   refine nN fun r hr=>?_;rcases hE with⟨O,he⟩|⟨O,p,i,hf,rfl⟩
   ·rw[he]
    unfold dL;rw[di];refine cJ fun j hj=>?_;have D:=(uf h).1 (r.1,dL Ls aK r.2) (aV.2 ⟨r,hr,rfl⟩) (aK j) (aV.2 ⟨j,hj,rfl⟩);rw[O] at D;have:(aK j).top=false:=by
     cases ht:(aK j).top with
     |false=>rfl
     |true=>exact absurd (D.1 ht).1 (by simp)
    show aK j=Br (aK j);unfold Br;rw[<-this]
   ·unfold dL
    rw[di]
    cases hL:Ls[r.2]? with
    |none=>rfl
    |some L=>
     refine cJ fun j hj=>?_;have ax:=hj;have D:=(uf h).1 (r.1,dL Ls aK r.2) (aV.2 ⟨r,hr,rfl⟩) (aK j) (by rw[ft hL];exact aV.2 ⟨j,ax,rfl⟩)
     by_cases I:j=i
     ·subst I;simp[Br]
     ·have:(aK j).top=false:=by
       cases ht:(aK j).top with
       |false=>rfl
       |true=>
        have J:=(ug h hr hL ax).1;rw[(D.1 ht).2,hf] at J;injection J with J;exact absurd (mF J).2.2.symm I
      show(if j=i then _ else aK j)=Br (aK j);rw[if_neg I];unfold Br;rw[<-this]
  ·refine nN fun r hr=>?_
   rcases hE with⟨O,he⟩|⟨O,p,i,hf,rfl⟩
   ·rw[he]
   ·refine Bs fun L hL j hj=>?_
    have J:=(By h hr hL hj).1;rw[if_neg];rintro rfl;obtain⟨r2,h3,e,h4,h5⟩:=(uf h).2 O;obtain⟨x,hx,rfl⟩:=iH h3;obtain⟨L2,i2,ay,a0,he⟩:=lj h4;have h6:=(ug h hx ay a0).1;rw[he,h5,hf] at h6;injection h6 with h6;obtain⟨_,_,h8⟩:=mF h6;subst h8;have h7:=(ug h hx ay a0).1;rw[J] at h7;injection h7 with h7;have:=(mF h7).1;exact XG
 ):G:=z
open Ka in
theorem eX.Bj (h:eX C Ls aK) (hl:Ge C C1 aK ent1 tp id):
  (∀i,(ent1 i).id=(aK i).id)/\(C1.s0.l=C.s0.l/\C1.s1.l=C.s1.l/\C1.spare=C.spare/\C1.f=C.f/\C1.n=C.n)/\dB (dL Ls ent1) C.s0.l=(if tp=true then yx (dB (dL Ls aK) C.s0.l) else dB (dL Ls aK) C.s0.l)/\
  dB (dL Ls ent1) C.s1.l=dB (dL Ls aK) C.s1.l/\(C1.s0.has=if tp=true then true else C.s0.has)/\(C1.s0.top=if tp=true then id else C.s0.top)/\C1.s1=C.s1:=VE
theorem eX.Wo {aw:Int} (X3:qd) (h:eX C Ls aK) (hf:C.f id=none) (bc:dZ id) (hl:Ge C C1 aK ent1 (yv 0 C.s0.l p) id)
  (hq:Iy C1 C2 p q Ls Ls2) (hL:Ls2[q]?=some L) (hi:∀(m:Nat) (M:List Nat),Ls2[m]?=some M->i∉M):
  eX {C2 with X:=X3,f:=fun y=>if y=id then some (cR 1 p i) else C2.f y,n:=C2.n+1} (Ls2.set q (L++[i])) (fun x=>if x=i then ⟨id,aw,yv 0 C.s0.l p⟩ else ent1 x)/\
  kD {C2 with X:=X3,f:=fun y=>if y=id then some (cR 1 p i) else C2.f y,n:=C2.n+1} (Ls2.set q (L++[i])) (fun x=>if x=i then ⟨id,aw,yv 0 C.s0.l p⟩ else ent1 x)=(kD C Ls aK).add 0 id p aw:=by
 obtain⟨a1,⟨b0,b1,b2,b3,b4⟩,a2,a3,a4,a5,a6⟩:=h.Bj hl;obtain⟨tp,a8⟩:=Zn (yv 0 C.s0.l p);have ba:Kd 0 (dB (dL Ls aK) C.s0.l) p=tp:=by rw[a8,IJ];rfl
 rw[<-a8] at a2 a4 a5⊢;have D:cZ (fun _=>False) C1.s0.l C1.s1.l C1.spare C1.f C1.n Ls ent1:=b0▸b1▸b2▸b3▸b4▸h.core.I a1;have hQ:cZ (fun x=>x=q) C2.s0.l C2.s1.l C2.spare C2.f C2.n Ls2 ent1/\(p,q)∈C2.s0.l/\C2.s1=C1.s1/\C2.s0.has=C1.s0.has/\C2.s0.top=C1.s0.top/\C2.f=C1.f/\(∀x,dL Ls2 ent1 x=dL Ls ent1 x)/\
   ∀(v':Nat->List dn) (e:dn),v' q=L.map ent1++[e]->(∀x,x≠q->v' x=dL Ls ent1 x)->mo 0 (dB (dL Ls ent1) C1.s0.l) p e=dB v' C2.s0.l:=by
  rcases hq with⟨h1,rfl,rfl⟩|⟨h1,A,c,⟨sp,h2,rfl,rfl⟩|⟨h2,rfl,rfl,rq',X',rfl⟩⟩
  ·refine⟨D.mono fun _ _ _ h=>h.elim,bF h1,rfl,rfl,rfl,rfl,fun _=>rfl,fun v' e h3 h4=>Gg (by rw[h3,ft hL]) h1 ?_ fun r hr a7=>h4 r.2 a7⟩
   have:=D.nodup;rw[bD,dw] at this
   first
   |exact this.1
   |exact(dw.1 this.2.1).1
  ·rw[h2] at D
   have J:=D.dead q bT;rw[hL] at J;injection J with J;subst J;refine⟨(D.mono fun _ _ _ h=>h.elim).Ro p h1 rfl,(jP 0 _ p q).mem_iff.2 bT,rfl,rfl,rfl,rfl,fun _=>rfl,fun v' e h3 h4=>xC (by rw[h3];rfl) h1 fun r hr=>h4 r.2 fun hx=>?_⟩;have hs:=D.ON (p:=r.1) (q:=r.2) hr;exact hs.2.2 q bT hx.symm
  ·rw[h2] at D
   have O:=D.opened;have J:(Ls++[[]])[Ls.length]?=some ([]:List Nat):=bT;rw[hL] at J;injection J with J;subst J;refine⟨by show cZ _ _ _ C1.spare _ _ _ _;rw[h2];exact(O.mono (ok':=fun x=>x=Ls.length) fun _ _ _ h=>h.elim).Ro p h1 rfl,(jP 0 _ p _).mem_iff.2 bT,rfl,rfl,rfl,rfl,fun x=>Eo _ _ x,fun v' e h3 h4=>xC (by rw[h3];rfl) h1 fun r hr=>h4 r.2 fun hx=>?_⟩;have hs:=O.ON (p:=r.1) (q:=r.2) hr;exact hs.2.2 Ls.length bT hx.symm
 obtain⟨c1,c2,c3,c4,c5,c6,c7,c8⟩:=hQ;have hp:=c1.XE (i:=i) (e:=⟨id,aw,tp⟩) c2 hL hi (c6▸b3▸hf) bc;obtain⟨v',ay⟩:=Zn (dL (Ls2.set q (L++[i])) (fun x=>if x=i then (⟨id,aw,tp⟩:dn) else ent1 x));have a7:∀{M:List Nat} {x:Nat},Ls2[x]?=some M->∀j∈M,(if j=i then (⟨id,aw,tp⟩:dn) else ent1 j)=ent1 j:=by
  intro M x hM j hj;rw[if_neg];rintro rfl;exact hi x M hM hj
 have vq:v' q=L.map ent1++[⟨id,aw,tp⟩]:=by
  rw[ay,t9 (aO hL),cx]
  congr 1
  ·exact cJ (a7 hL)
  ·simp
 have bb:∀x,x≠q->v' x=dL Ls ent1 x:=by
  intro x hx;rw[ay,tZ hx,<-c7];exact Bs fun M hM j hj=>a7 hM j hj
 have k1:=c8 v' ⟨id,aw,tp⟩ vq bb;have ax:jo 0 (dB (dL Ls aK) C.s0.l) id p aw=dB v' C2.s0.l:=by
  unfold jo;rw[ba,<-a2,<-b0];exact k1
 have a0:dB v' C2.s1.l=dB (dL Ls aK) C.s1.l:=by
  rw[<-a3,c3,a6];refine nN fun r hr=>bb r.2 ?_;have:=(c1.ON c2).2.1 r (c3▸a6▸hr);exact this
 have bf:∀r∈dB (dL Ls aK) C.s0.l,∀e∈r.2,e.id≠id:=by
  intro r hr e he hx;obtain⟨x,bh,rfl⟩:=iH hr;obtain⟨M,j,hM,hj,bp⟩:=lj he;have:=(h.VC bh hM hj).1;rw[bp,hx,hf] at this
  cases this
 have T1:=h.yB.added (k:=0) (p:=p) (q:=aw) bf;rw[ax,ba,<-a4,<-a5,<-c4,<-c5] at T1;have T2:=h.KU;rw[<-a0,<-a6,<-c3] at T2;refine⟨⟨hp,?_,?_⟩,?_⟩
 ·rw[<-ay];first|exact T1|exact T2
 ·rw[<-ay];first|exact T1|exact T2
 ·unfold kD BM.add
  rw[<-ay];simp only[if_true,if_false,reduceIte,ym,yn,ax,<-a0]
theorem eX.Wp (h:eX C Ls aK):KQ C Ls aK:=fun O=>by
 obtain⟨r,h1,e,h2,h3⟩:=h.KU.2 O;obtain⟨x,hx,rfl⟩:=iH h1;obtain⟨L,i,D,hi,he⟩:=lj h2;obtain⟨I,J⟩:=h.VD hx D hi;obtain⟨j,hj⟩:=aG hi;rw[he,h3] at I J;exact⟨J,x.1,x.2,j,i,L,I,D,hj⟩
namespace Kb
abbrev uf:=@eX.KU
abbrev ug:=@eX.VD
abbrev By:=@eX.VC
end Kb
open Kb in
theorem eX.Bk (h:eX C Ls aK) (hl:Gf C C1 aK ent1 tp id):
  (∀i,(ent1 i).id=(aK i).id)/\(C1.s0.l=C.s0.l/\C1.s1.l=C.s1.l/\C1.spare=C.spare/\C1.f=C.f/\C1.n=C.n)/\dB (dL Ls ent1) C.s1.l=(if tp=true then yx (dB (dL Ls aK) C.s1.l) else dB (dL Ls aK) C.s1.l)/\
  dB (dL Ls ent1) C.s0.l=dB (dL Ls aK) C.s0.l/\(C1.s1.has=if tp=true then true else C.s1.has)/\(C1.s1.top=if tp=true then id else C.s1.top)/\C1.s0=C.s0:=VE
theorem eX.Wq {aw:Int} (X3:qd) (h:eX C Ls aK) (hf:C.f id=none) (bc:dZ id) (hl:Gf C C1 aK ent1 (yv 1 C.s1.l p) id)
  (hq:ID C1 C2 p q Ls Ls2) (hL:Ls2[q]?=some L) (hi:∀(m:Nat) (M:List Nat),Ls2[m]?=some M->i∉M):
  eX {C2 with X:=X3,f:=fun y=>if y=id then some (cR 2 p i) else C2.f y,n:=C2.n+1} (Ls2.set q (L++[i])) (fun x=>if x=i then ⟨id,aw,yv 1 C.s1.l p⟩ else ent1 x)/\
  kD {C2 with X:=X3,f:=fun y=>if y=id then some (cR 2 p i) else C2.f y,n:=C2.n+1} (Ls2.set q (L++[i])) (fun x=>if x=i then ⟨id,aw,yv 1 C.s1.l p⟩ else ent1 x)=(kD C Ls aK).add 1 id p aw:=by
 obtain⟨a1,⟨b0,b1,b2,b3,b4⟩,a2,a3,a4,a5,a6⟩:=h.Bk hl;obtain⟨tp,a8⟩:=Zn (yv 1 C.s1.l p);have ba:Kd 1 (dB (dL Ls aK) C.s1.l) p=tp:=by rw[a8,IJ];rfl
 rw[<-a8] at a2 a4 a5⊢;have D:cZ (fun _=>False) C1.s0.l C1.s1.l C1.spare C1.f C1.n Ls ent1:=b0▸b1▸b2▸b3▸b4▸h.core.I a1;have hQ:cZ (fun x=>x=q) C2.s0.l C2.s1.l C2.spare C2.f C2.n Ls2 ent1/\(p,q)∈C2.s1.l/\C2.s0=C1.s0/\C2.s1.has=C1.s1.has/\C2.s1.top=C1.s1.top/\C2.f=C1.f/\(∀x,dL Ls2 ent1 x=dL Ls ent1 x)/\
   ∀(v':Nat->List dn) (e:dn),v' q=L.map ent1++[e]->(∀x,x≠q->v' x=dL Ls ent1 x)->mo 1 (dB (dL Ls ent1) C1.s1.l) p e=dB v' C2.s1.l:=by
  rcases hq with⟨h1,rfl,rfl⟩|⟨h1,A,c,⟨sp,h2,rfl,rfl⟩|⟨h2,rfl,rfl,rq',X',rfl⟩⟩
  ·refine⟨D.mono fun _ _ _ h=>h.elim,bF h1,rfl,rfl,rfl,rfl,fun _=>rfl,fun v' e h3 h4=>Gg (by rw[h3,ft hL]) h1 ?_ fun r hr a7=>h4 r.2 a7⟩
   have:=D.nodup;rw[bD,dw] at this
   first
   |exact this.1
   |exact(dw.1 this.2.1).1
  ·rw[h2] at D
   have J:=D.dead q bT;rw[hL] at J;injection J with J;subst J;refine⟨(D.mono fun _ _ _ h=>h.elim).Rp p h1 rfl,(jP 1 _ p q).mem_iff.2 bT,rfl,rfl,rfl,rfl,fun _=>rfl,fun v' e h3 h4=>xC (by rw[h3];rfl) h1 fun r hr=>h4 r.2 fun hx=>?_⟩;have hs:=D.OO (p:=r.1) (q:=r.2) hr;exact hs.2.2 q bT hx.symm
  ·rw[h2] at D
   have O:=D.opened;have J:(Ls++[[]])[Ls.length]?=some ([]:List Nat):=bT;rw[hL] at J;injection J with J;subst J;refine⟨by show cZ _ _ _ C1.spare _ _ _ _;rw[h2];exact(O.mono (ok':=fun x=>x=Ls.length) fun _ _ _ h=>h.elim).Rp p h1 rfl,(jP 1 _ p _).mem_iff.2 bT,rfl,rfl,rfl,rfl,fun x=>Eo _ _ x,fun v' e h3 h4=>xC (by rw[h3];rfl) h1 fun r hr=>h4 r.2 fun hx=>?_⟩;have hs:=O.OO (p:=r.1) (q:=r.2) hr;exact hs.2.2 Ls.length bT hx.symm
 obtain⟨c1,c2,c3,c4,c5,c6,c7,c8⟩:=hQ;have hp:=c1.XF (i:=i) (e:=⟨id,aw,tp⟩) c2 hL hi (c6▸b3▸hf) bc;obtain⟨v',ay⟩:=Zn (dL (Ls2.set q (L++[i])) (fun x=>if x=i then (⟨id,aw,tp⟩:dn) else ent1 x));have a7:∀{M:List Nat} {x:Nat},Ls2[x]?=some M->∀j∈M,(if j=i then (⟨id,aw,tp⟩:dn) else ent1 j)=ent1 j:=by
  intro M x hM j hj;rw[if_neg];rintro rfl;exact hi x M hM hj
 have vq:v' q=L.map ent1++[⟨id,aw,tp⟩]:=by
  rw[ay,t9 (aO hL),cx]
  congr 1
  ·exact cJ (a7 hL)
  ·simp
 have bb:∀x,x≠q->v' x=dL Ls ent1 x:=by
  intro x hx;rw[ay,tZ hx,<-c7];exact Bs fun M hM j hj=>a7 hM j hj
 have k1:=c8 v' ⟨id,aw,tp⟩ vq bb;have ax:jo 1 (dB (dL Ls aK) C.s1.l) id p aw=dB v' C2.s1.l:=by
  unfold jo;rw[ba,<-a2,<-b1];exact k1
 have a0:dB v' C2.s0.l=dB (dL Ls aK) C.s0.l:=by
  rw[<-a3,c3,a6];refine nN fun r hr=>bb r.2 ?_;have:=(c1.OO c2).2.1 r (c3▸a6▸hr);exact this
 have bf:∀r∈dB (dL Ls aK) C.s1.l,∀e∈r.2,e.id≠id:=by
  intro r hr e he hx;obtain⟨x,bh,rfl⟩:=iH hr;obtain⟨M,j,hM,hj,bp⟩:=lj he;have:=(h.VD bh hM hj).1;rw[bp,hx,hf] at this
  cases this
 have T1:=h.KU.added (k:=1) (p:=p) (q:=aw) bf;rw[ax,ba,<-a4,<-a5,<-c4,<-c5] at T1;have T2:=h.yB;rw[<-a0,<-a6,<-c3] at T2;refine⟨⟨hp,?_,?_⟩,?_⟩
 ·rw[<-ay];first|exact T1|exact T2
 ·rw[<-ay];first|exact T1|exact T2
 ·unfold kD BM.add
  rw[<-ay];simp only[if_true,if_false,reduceIte,ym,yn,ax,<-a0]
end Go.Proofs.YtbaaheidifacaaaGreat
