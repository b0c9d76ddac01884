import Derived.Test.YtbaaheidifacaaaGreatQDiff1
import Derived.Test.YtbaaheidifacaaaGreatQCat
set_option linter.defProp false
set_option linter.unusedVariables false
set_option linter.unusedSimpArgs false
set_option maxRecDepth 100000
set_option maxHeartbeats 12800000
namespace Go.Proofs.YtbaaheidifacaaaGreat
variable {A:Option Addr} {B B0 c ge n q z:Nat} {F Gs':Nat→Prop} {G:vJ} {L:List Dx} {P:PD} {V:vZ} {cs:Array Value} {dl':List UInt8} {e:TypeId} {f tag:Nat→Nat} {r':Option Nat} {v:Value} {w w':World} {xs:List Value}
open Go.RowKit
structure N1 where
 gg:Nat
 g:Nat
 ob:Nat
 C:zt
 Gs:Nat→Prop
 R:Nat→Prop
 d:Nat
 j:Nat
 r:Option Nat
 dl:List UInt8
 ds:Nat
 k:Nat
 ma:Option Addr
 mc:Nat
 sa:Option Addr
 sc:Nat
 va:Option Addr
 vc:Nat
 L:List Dx
 vB:Nat
 vE:Nat
 seq:Int
 la:Option Addr
 ln:Nat
 lc:Nat
 Tw:List Value
variable {x:N1}
def N1.cells (x:N1) (P:PD):Array Value:=#[.string (str P.code), .slice x.ma P.E.length x.mc,Iz P.tick,Iz P.low,Iz P.high,Iz P.wide,Iz P.rule,Iz P.top,Iz P.least,Iz P.part, .slice x.sa P.settle.length x.sc,
 Pz x.j, Pz x.gg, .slice x.va x.L.length x.vc,Iz x.seq, .slice x.la x.ln x.lc]
def Qp (w:World) (B E:Nat) (A:Option Addr) (c:Nat) (L:List Dx):Prop:=E≤w.heap.size∧∃w0,w0.heap.size=E∧nt w0 B A c L∧∀q,B≤q→q<E→w.heap[q]?=w0.heap[q]?
theorem jU {w0:World} (h:w0.ownsRow B e z v n xs) (I:∀q,B<=q->q<w0.heap.size->w.heap[q]?=w0.heap[q]?):w.ownsRow B e z v n xs:=by
 refine⟨h.1,?_⟩;rcases h.2 with J|⟨g,cap,cur,hv,hg,D,rest⟩
 ·exact .inl J
 ·exact .inr ⟨g,cap,cur,hv,hg,(I g hg (aU.1 D).1).trans D,rest⟩
theorem Qp.view {E:Nat} (h:Qp w B E A c L):nt w B A c L:=by
 obtain⟨-,w0,rfl,hv,D⟩:=h;exact⟨jU hv.row D,fun e he=>⟨jU (hv.lv e he).1 D,jU (hv.lv e he).2 D⟩⟩
theorem Qp.keep {E:Nat} (h:Qp w B E A c L) (hs:w.heap.size<=w'.heap.size) (D:∀q,B<=q->q<E->w'.heap[q]?=w.heap[q]?):Qp w' B E A c L:=by
 obtain⟨O,w0,I,hv,J⟩:=h;exact⟨ae,w0,I,hv,fun q a b=>(D q a b).trans (J q a b)⟩
theorem Qp.new (h:nt w B A c L):Qp w B w.heap.size A c L:=⟨af _,w,rfl,h,fun _ _ _=>rfl⟩
structure kP (w:World) (B0 ge:Nat) (P:PD) (G:vJ) (V:vZ) (x:N1) (tag:Nat→Nat):Prop where
 D:aE w ge 148 (x.cells P)
 pd:iZ w P x.ma x.sa
 dk:fj w x.d x.r x.dl x.ds
 jr:jD w x.j x.d x.k
 gt:pX w x.Gs x.R x.gg x.g x.ob P G x.C
 vw:Qp w x.vB x.vE x.va x.vc x.L
 lk:ke x.L=V
 row:w.ownsRow B0 62 1 (.slice x.la x.ln x.lc) x.ln x.Tw
 t1:tag ge=1
 t2:tag x.d=2
 t3:tag x.j=3
 t4:∀q,x.r=some q→tag q=4
 t5:∀q,q=x.gg∨q=x.ob∨q=x.g∨q=x.C.ub∨x.Gs q∨x.R q→tag q=5
 t6:∀q,(Value.slice x.la x.ln x.lc).ownBlock=some q→tag q=6
 t7:∀q,qP x.ma q∨qP x.sa q→tag q=7
 t8:∀q,x.vB≤q→q<x.vE→tag q=8
 lo:∀q,1≤tag q→q<w.heap.size→B0≤q
 bs:B0≤w.heap.size
theorem kP.keep (h:kP w B0 ge P G V x tag) (T:List Nat) (J:Lv F w w') (hF:∀q,q<w.heap.size->F q->tag q∈T):
  (1∉T->aE w' ge 148 (x.cells P))/\(7∉T->iZ w' P x.ma x.sa)/\(2∉T->4∉T->fj w' x.d x.r x.dl x.ds)/\(3∉T->jD w' x.j x.d x.k)/\(5∉T->pX w' x.Gs x.R x.gg x.g x.ob P G x.C)/\
  (8∉T->Qp w' x.vB x.vE x.va x.vc x.L)/\(6∉T->w'.ownsRow B0 62 1 (.slice x.la x.ln x.lc) x.ln x.Tw):=by
 have kb:∀t,t∉T->∀q,q<w.heap.size->tag q=t->w'.heap[q]?=w.heap[q]?:=fun t I q hq O=>J.block q hq fun hf=>I (O▸hF q hq hf);refine⟨fun I=>h.D.block (kb 1 I _ h.D.lt h.t1),fun I=>h.pd.same (fun q hq ax=>kb 7 I q ax (h.t7 q hq)) J.size,fun I ay=>h.dk.keep (kb 2 I _ h.dk.jC.1 h.t2) (fun q hq=>kb 4 ay q (h.dk.jC.2 q hq).2 (h.t4 q hq)) J.size,fun I=>h.jr.keep (kb 3 I _ h.jr.lt h.t3),fun I=>?_,fun I=>?_,fun I=>?_⟩
 ·exact h.gt.lv (F:=F) J (fun q hq hf=>I (by rw[<-h.t5 q hq];exact hF q (h.gt.lt q hq) hf))
 ·exact h.vw.keep J.size fun q h1 h2=>kb 8 I q (cA h.vw.1) (h.t8 q h1 h2)
 ·refine⟨h.row.1,?_⟩
  rcases h.row.2 with h0|⟨g,cap,cur,hv,hg,hh,rest⟩
  ·exact .inl h0
  ·exact .inr ⟨g,cap,cur,hv,hg,(kb 6 I g (aU.1 hh).1 (h.t6 g (by rw[hv];rfl))).trans hh,rest⟩
def mL (tag:Nat→Nat) (n:Nat) (f:Nat→Nat):Nat→Nat:=fun q=>if q<n then tag q else f q
theorem fD (h:q<n):mL tag n f q=tag q:=if_pos h
theorem lG (h:n<=q):mL tag n f q=f q:=if_neg ae
theorem iZ.Xc {ma sa:Option Addr} (h:iZ w P ma sa) (q:Nat) (hq:qP ma q\/qP sa q):q<w.heap.size:=by
 have hr:=h.right;rcases hq with⟨o,I⟩|⟨o,I⟩
 ·obtain⟨b,J,D,O,_⟩:=h.m (by intro e;have e2:=congrArg List.length e;have:=hr.n2;simp only[bZ,br,lZ] at e2;omega)
  rw[I] at D;injection D with D;injection D with D;omega
 ·obtain⟨b,J,D,O,_⟩:=h.s (by intro e;have e2:=congrArg List.length e;have:=hr.n2;have:=hr.vI;simp only[bZ,br,lZ] at e2;omega)
  rw[I] at D;injection D with D;injection D with D;omega
theorem kP.tags (h:kP w B0 ge P G V x tag) (f:Nat->Nat):
  mL tag w.heap.size f ge=1/\mL tag w.heap.size f x.d=2/\mL tag w.heap.size f x.j=3/\(∀q,x.r=some q->mL tag w.heap.size f q=4)/\
  (∀q,q=x.gg\/q=x.ob\/q=x.g\/q=x.C.ub\/x.Gs q\/x.R q->mL tag w.heap.size f q=5)/\(∀q,(Value.slice x.la x.ln x.lc).ownBlock=some q->mL tag w.heap.size f q=6)/\
  (∀q,qP x.ma q\/qP x.sa q->mL tag w.heap.size f q=7)/\(∀q,x.vB<=q->q<x.vE->mL tag w.heap.size f q=8):=
 ⟨(fD h.D.lt).trans h.t1,(fD h.dk.jC.1).trans h.t2,(fD h.jr.lt).trans h.t3,fun q hq=>(fD (h.dk.jC.2 q hq).2).trans (h.t4 q hq),fun q hq=>(fD (h.gt.lt q hq)).trans (h.t5 q hq),
  fun q hq=>(fD (h.row.lt q hq).2).trans (h.t6 q hq),fun q hq=>(fD (h.pd.Xc q hq)).trans (h.t7 q hq),fun q I J=>(fD (cA h.vw.1)).trans (h.t8 q I J)⟩
theorem kP.Yj (h:kP w B0 ge P G V x tag) (f:Nat->Nat):∀q,1<=mL tag w.heap.size f q->q<w'.heap.size->B0<=q:=fun q D _=>by
 by_cases hq:q<w.heap.size
 ·rw[fD hq] at D;exact h.lo q D hq
 ·have:=h.bs;omega
theorem kP.below (h:kP w B0 ge P G V x tag) (D:Bz w w'):kP w' B0 ge P G V x (mL tag w.heap.size fun _=>0):=by
 obtain⟨a1,I,J,a3,O,a8,a6⟩:=h.keep (F:=fun _=>False) [] (Lv.bL D) (fun q _ hf=>hf.elim);obtain⟨b1,b2,b3,b4,b5,b6,b7,b8⟩:=h.tags fun _=>0;exact⟨a1 bT,I bT,J bT bT,a3 bT,O bT,a8 bT,h.lk,a6 bT,b1,b2,b3,b4,b5,b6,b7,b8,h.Yj _,aF h.bs D.size⟩
theorem kP.YY (h:kP w B0 ge P G V x tag) {k':Nat} (I:NY x.d x.j x.r w w') (D:fj w' x.d r' dl' x.ds) (hr:r'=x.r\/∀q,r'=some q->w.heap.size<=q) (J:jD w' x.j x.d k'):
  kP w' B0 ge P G V {x with r:=r',dl:=dl',k:=k'} (mL tag w.heap.size fun _=>4):=by
 have L:Lv (fun q=>q=x.d\/q=x.j\/some q=x.r) w w':=⟨I.os,I.tape,I.output,I.size,fun q hq hf=>I.block q hq (fun e=>hf (.inl e)) (fun e=>hf (.inr (.inl e))) (fun e=>hf (.inr (.inr e)))⟩;obtain⟨a1,O,a2,a3,a5,a8,a6⟩:=h.keep [2,3,4] L (by
  rintro q - (rfl|rfl|e)
  ·rw[h.t2];simp
  ·rw[h.t3];simp
  ·rw[h.t4 q e.symm];simp)
 obtain⟨b1,b2,b3,b4,b5,b6,b7,b8⟩:=h.tags fun _=>4;refine⟨a1 bT,O bT,D,J,a5 bT,a8 bT,h.lk,a6 bT,b1,b2,b3,fun q hq=>?_,b5,b6,b7,b8,h.Yj _,aF h.bs I.size⟩;rcases hr with e|e
 ·exact b4 q (e.symm.trans hq)
 ·exact lG (e q hq)
theorem kP.gate {D:vJ} (h:kP w B0 ge P G V x tag) (hg:pX w' Gs' x.R x.gg x.g x.ob P D x.C) (I:Lv (fun q=>q=x.ob\/q=x.C.ub\/x.Gs q) w w') (hs:∀q,Gs' q->x.Gs q\/qO w w' q):
  kP w' B0 ge P D V {x with Gs:=Gs'} (mL tag w.heap.size fun _=>5):=by
 obtain⟨a1,J,O,a3,a5,a8,a6⟩:=h.keep [5] I (by
  rintro q - (rfl|rfl|e)
  ·rw[h.t5 _ (.inr (.inl rfl))];simp
  ·rw[h.t5 _ (.inr (.inr (.inr (.inl rfl))))];simp
  ·rw[h.t5 q (.inr (.inr (.inr (.inr (.inl e)))))];simp)
 obtain⟨b1,b2,b3,b4,b5,b6,b7,b8⟩:=h.tags fun _=>5;refine⟨a1 bT,J bT,O bT bT,a3 bT,hg,a8 bT,h.lk,a6 bT,b1,b2,b3,b4,fun q hq=>?_,b6,b7,b8,h.Yj _,aF h.bs I.size⟩;rcases hq with e|e|e|e|e|e
 ·exact b5 q (.inl e)
 ·exact b5 q (.inr (.inl e))
 ·exact b5 q (.inr (.inr (.inl e)))
 ·exact b5 q (.inr (.inr (.inr (.inl e))))
 ·rcases hs q e with e|e
  ·exact b5 q (.inr (.inr (.inr (.inr (.inl e)))))
  ·exact lG e.1
 ·exact b5 q (.inr (.inr (.inr (.inr (.inr e)))))
theorem kP.seen {V':vZ} (h:kP w B0 ge P G V x tag) (hb:Bz w w') (hv:Qp w' w.heap.size w'.heap.size A c L) (hV:ke L=V') (hn:n=L.length):
  kP (w'.setCell ⟨ge,13,none⟩ (.slice A n c)) B0 ge P G V' {x with va:=A,vc:=c,L:=L,vB:=w.heap.size,vE:=w'.heap.size} (mL tag w.heap.size fun _=>8):=by
 subst hn;have L2:Lv (fun q=>q=ge) w (w'.setCell ⟨ge,13,none⟩ (.slice A L.length c)):=(Lv.bL (F:=fun q=>q=ge) hb).setCell (p:=⟨ge,13,none⟩) rfl _;obtain⟨a1,a7,a2,a3,a5,a8,a6⟩:=h.keep [1] L2 (by rintro q - rfl;rw[h.t1];simp);obtain⟨b1,b2,b3,b4,b5,b6,b7,b8⟩:=h.tags fun _=>8;have I:(w'.setCell ⟨ge,13,none⟩ (.slice A L.length c)).heap.size=w'.heap.size:=lQ _ _ _;have ax:=h.D.lt;refine⟨(h.D.below hb).set 13 _,a7 bT,a2 bT bT,a3 bT,a5 bT,?_,hV,a6 bT,b1,b2,b3,b4,b5,b6,b7,fun q J O=>lG J,fun q J O=>h.Yj (w':=w') _ q J (I▸O),aF h.bs L2.size⟩;exact hv.keep (bu I.symm) fun q J O=>heap_setCell_other _ _ _ _ (by show q≠ge;omega)
theorem kP.YZ (h:kP w B0 ge P G V x tag) (sq:Int):
  kP (w.setCell ⟨ge,14,none⟩ (Iz sq)) B0 ge P G V {x with seq:=sq} tag:=by
 have J:Lv (fun q=>q=ge) w (w.setCell ⟨ge,14,none⟩ (Iz sq)):=(Lv.refl (fun q=>q=ge) w).setCell (p:=⟨ge,14,none⟩) rfl _;obtain⟨a1,O,a2,a3,a5,a8,a6⟩:=h.keep [1] J (by rintro q - rfl;rw[h.t1];simp);have I:(w.setCell ⟨ge,14,none⟩ (Iz sq)).heap.size=w.heap.size:=lQ _ _ _;exact⟨h.D.set 14 _,O bT,a2 bT bT,a3 bT,a5 bT,a8 bT,h.lk,a6 bT,h.t1,h.t2,h.t3,h.t4,h.t5,h.t6,h.t7,h.t8,fun q h1 h2=>h.lo q h1 (I▸h2),aF h.bs J.size⟩
theorem kP.log (h:kP w B0 ge P G V x tag) (own:w'.ownsRow B0 62 1 (.slice A n c) n xs) (hg:w.grownBy w' (Value.slice x.la x.ln x.lc).ownBlock)
  (hl:(Value.slice A n c).ownBlock=(Value.slice x.la x.ln x.lc).ownBlock\/∀q,(Value.slice A n c).ownBlock=some q->w.heap.size<=q):
  kP (w'.setCell ⟨ge,15,none⟩ (.slice A n c)) B0 ge P G V {x with la:=A,ln:=n,lc:=c,Tw:=xs} (mL tag w.heap.size fun _=>6):=by
 have ax:=h.D.lt;have O:Lv (fun q=>(Value.slice x.la x.ln x.lc).ownBlock=some q) w w':=Lv.dy hg fun q hq=> .inl hq;have L2:Lv (fun q=>(Value.slice x.la x.ln x.lc).ownBlock=some q\/q=ge) w (w'.setCell ⟨ge,15,none⟩ (.slice A n c)):=(O.mono fun q hq=> .inl (.inl hq)).setCell (.inr rfl) _;obtain⟨a1,a7,a2,a3,a5,a8,a6⟩:=h.keep [1,6] L2 (by
  rintro q - (e|rfl)
  ·rw[h.t6 q e];simp
  ·rw[h.t1];simp)
 obtain⟨c1, -⟩:=h.keep [6] O (by intro q _ e;rw[h.t6 q e];simp);obtain⟨b1,b2,b3,b4,b5,b6,b7,b8⟩:=h.tags fun _=>6;have J:(w'.setCell ⟨ge,15,none⟩ (.slice A n c)).heap.size=w'.heap.size:=lQ _ _ _;have I:∀q,(Value.slice A n c).ownBlock=some q->mL tag w.heap.size (fun _=>6) q=6:=fun q hq=>by
  rcases hl with e|e
  ·exact b6 q (e.symm.trans hq)
  ·exact lG (e q hq)
 refine⟨(c1 bT).set 15 _,a7 bT,a2 bT bT,a3 bT,a5 bT,a8 bT,h.lk,?_,b1,b2,b3,b4,b5,I,b7,b8,fun q h1 h2=>h.Yj (w':=w') _ q h1 (J▸h2),aF h.bs L2.size⟩;refine⟨own.1,?_⟩;rcases own.2 with h0|⟨g,cap,cur,hv,hg,hh,rest⟩
 ·exact .inl h0
 ·refine .inr ⟨g,cap,cur,hv,hg,?_,rest⟩
  rw[heap_setCell_other]
  ·exact hh
  ·intro e
   have e':g=ge:=e;have:=I g (by rw[hv];rfl);rw[e',b1] at this
   cases this
structure Yk (P:PD) (V:vZ):Prop where
 n:V.length=P.count
 s:∀e∈V,e.1.lv.length≤1000∧e.2.lv.length≤1000
theorem Yk.Y9 (h:Yk P V) (D:ke L=V) (hv:nt w B A c L) (hn:n=P.count):Qm w B A n c L:=by
 subst D;refine⟨by rw[hn,<-h.n];unfold ke;simp,hv,fun e he=>?_⟩;exact h.s (e.1.sd,e.2.sd) (aV.2 ⟨e,he,rfl⟩)
theorem Ha:∀(l:List iQ),(∀r∈l,r.2≠[])->l.length<=(gY l).length
 |[],_=>aB _
 |r::l,h=>by
  have D:=Ha l fun x hx=>h x (by simp[hx]);have I:0<r.2.length:=iu.2 (h r bT);unfold gY at*;rw[bj,aC,bI];omega
theorem EE.Vc {M:BM} (h:EE M) (k:Nat):(M.side k).length<=250:=by
 have hc:=h.cnt;unfold BM.I at hc;rw[aC] at hc;have D:=Ha _ h.XL;have J:=Ha _ h.Ol;unfold BM.side
 split<;>omega
theorem look_ok {G R:Nat->Prop} {s:Nat} {S:Sm} (h:dR w G R s P S):Yk P (kN P S):=by
 refine⟨by unfold kN;simp,fun e he=>?_⟩;unfold kN at he;obtain⟨x,hx,rfl⟩:=aV.1 he;have key:∀k,(kK P S x k).lv.length<=1000:=fun k=>by
  unfold kK;simp only
  split
  ·rename_i M D
   rw[br];have:=(h.xX D).Vc k;omega
  ·simp
 exact⟨key 0,key 1⟩
theorem Yn:kA Tryz.prog 141 62 (.slice none 0 0) 1 24:=⟨Xa.under,Xa.info,rfl,ae,ae⟩
theorem kP.off (h:kP w B0 ge P G V x tag) {gr i:Nat} (hg:tag gr=0) (u:Value):kP (w.setCell ⟨gr,i,none⟩ u) B0 ge P G V x tag:=by
 have I:Lv (fun q=>q=gr) w (w.setCell ⟨gr,i,none⟩ u):=(Lv.refl (fun q=>q=gr) w).setCell (p:=⟨gr,i,none⟩) rfl _;obtain⟨a1,J,O,a3,a5,a8,a6⟩:=h.keep [0] I (by rintro q - rfl;rw[hg];simp);have D:(w.setCell ⟨gr,i,none⟩ u).heap.size=w.heap.size:=lQ _ _ _;exact⟨a1 bT,J bT,O bT bT,a3 bT,a5 bT,a8 bT,h.lk,a6 bT,h.t1,h.t2,h.t3,h.t4,h.t5,h.t6,h.t7,h.t8,fun q h1 h2=>h.lo q h1 (D▸h2),aF h.bs I.size⟩
theorem yU (gg g ob:Nat) (P:PD) (G:vJ) (Gs R:Nat->Prop) (C:zt) (w:World) (h:pX w Gs R gg g ob P G C):
  Wz 77 #[Pz gg] w fun e w'=>e= .returned (Pz g)/\w=w':=by
 have I:=h.D.cell;clear h
 go_enter Tryz.func77,Tryz.ntmps77
 go_wp2_with fail;go_ret;exact⟨rfl,rfl⟩
structure Seen (w0 wx:World) (gv:Nat) (P:PD) (S:Sm) (A:Option Addr) (n c:Nat) (L:List Dx):Prop where
 D:aE wx gv 71 #[.slice A n c]
 vw:nt wx w0.heap.size A c L
 n:n=L.length
 eq:ke L=kN P S
 jm:Bz w0 wx
 lo:w0.heap.size≤gv
theorem nt.keep (h:nt w B A c L) (D:∀q,B<=q->q<w.heap.size->w'.heap[q]?=w.heap[q]?):nt w' B A c L:=
 ⟨jU h.row D,fun e he=>⟨jU (h.lv e he).1 D,jU (h.lv e he).2 D⟩⟩
theorem nt.base {I:Nat} (h:nt w B A c L) (D:I<=B):nt w I A c L:=
 ⟨ch h.row D,fun e he=>⟨ch (h.lv e he).1 D,ch (h.lv e he).2 D⟩⟩
theorem Vd (B0 ge:Nat) (P:PD) (G:vJ) (V:vZ) (x:N1) (tag:Nat->Nat) (s:Nat) (A:Option Addr) (n c:Nat) (b:List UInt8) (w:World) (h:kP w B0 ge P G V x tag) (hV:Yk P V) (hs:s<8) (hn:b.length=n) (hl:n<=255) (hc:n<=c) (kf:c<=9223372036854775807) (hA:Cells w A (ij b)) (gj:∀q,qP A q->q<w.heap.size->tag q=0)
  (gx:G.m.un<1000000) (gy:G.on+3+1503*(gw s b).1.aw.toNat<1000000) (n5:x.ln<=1000):
  Wz 80 #[Pz ge,Iz (s:Int), .slice A n c] w fun e w'=> ∃A1 c1 n2 A2 c2 x' ek,e= .returned (.agg #[.slice A1 (yb P G s b).2.length c1, .slice A2 n2 c2])/\n2=wj V (kN P (yb P G s b).1.m.S)/\
   sO 0 w' A1 c1 (yb P G s b).2/\kP w' B0 ge P (yb P G s b).1 (kN P (yb P G s b).1.m.S) x' ek/\(∀q,q<w.heap.size->ek q=tag q)/\Lv (fun q=>1<=tag q) w w'/\x'.ln=x.ln+1/\x'.k=x.k/\x'.dl=x.dl:=by
 have ki:Cz w ge 15 (.slice x.la x.ln x.lc):=h.D.cell 15;obtain⟨G',eG⟩:=Zn ((yb P G (s:Int) b).1);obtain⟨O,eO⟩:=Zn ((yb P G (s:Int) b).2);rw[<-eG,<-eO];obtain⟨kk,kl,kn⟩:=fY gj eG eO;clear gj eG eO;obtain⟨H,HV,HN,HA,kr,ks,HS⟩:=yY h hV hn hA gy gx hs;clear h hV hn hA gy gx hs
 go_enter Tryz.func80,Tryz.ntmps80
 go_upto_region 1 with(fail)
 obtain⟨w0,dp⟩:=Zn (w.alloc (.cells #[.slice none 0 0, .slice none 0 0] 104));obtain⟨gr,cl⟩:=Zn w.heap.size;have eS:=Zw dp;have DR:=Zq dp cl;rw[<-dp,<-cl];have H0:=H.h.below eS;obtain⟨ay,a8⟩:=Zn (mL tag w.heap.size fun _=>0);rw[<-a8] at H0;have gA:ay gr=0:=a8▸cl▸lG (af _);have el:=H0.D.lt;have gG:Cz w0 ge 15 (.slice x.la x.ln x.lc):=H0.D.cell 15;obtain⟨Fs,eT⟩:=Zn (fun j=>j=ge:Nat->Prop);have m0:Fs ge:=by rw[eT]
 have l0:∀u,aI Fs w0.drew u->Cz u ge 15 (.slice x.la x.ln x.lc):=fun u hu=>(hu.cell m0).trans gG;obtain⟨bQ,bR,eU,dS,gI,cm,kx,cn⟩:=Dw eT H0 DR eS a8 gA cl el;clear ki dp eT H0 DR eS a8 gA el gG m0 cl;refine bx (R:=aI Fs) 15 [7,9,10,11,12,15] [0,1,2,3,4,5,6,8,7,9,10,11,12,13,14,15] (by kernel_rfl) (aI.tr _) (aI.J _) (by kernel_rfl) (fun _ _ _ _ _ h=>h) ?_;refine Yt ?_;clear l0;refine Ym fun K hK=>?_;have gO:IntKind.u8.wrap (s:Int)=(s:Int):=by have:=HS.h;rw[IntKind.wrap_u8];omega
 rw[gO];obtain⟨w1,dT⟩:=Zn ((w0.alloc (.cells #[.int .u8 (s:Int)] 5)).drew);have B1:Bz w0 w1:=dT▸aS (au (aa _ _) _);have D1:aE w1 w0.heap.size 5 #[.int .u8 (s:Int)]:=dT▸(aE.new _ _ _).drew;have gP:aI Fs w0.drew w1:=fun j hj=>by rw[bQ.h] at hj;subst hj;exact B1.block _ cn.h
 rw[<-dT];obtain⟨eV,gR⟩:=dF B1 D1;clear dT B1 D1 gO;refine Yo hK (gP) ?_;clear gP;refine Yt ?_;refine Ym fun K hK=>?_;obtain⟨w2,d2⟩:=Zn (w1.alloc (.cells #[.slice (some ⟨w0.heap.size,0,none⟩) 1 1, .slice A n c] 62));have B2:=Zw d2;have D2:aE w2 w1.heap.size 62 #[.slice (some ⟨w0.heap.size,0,none⟩) 1 1, .slice A n c]:=d2▸aE.new _ _ _;have gT:aI Fs w1 w2:=fun j hj=>by rw[bQ.h] at hj;subst hj;exact B2.block _ (aA cn.h eV.h.size)
 rw[<-d2];obtain⟨d3,d4,ct⟩:=fY (dW eV.h B2) D2 (gR.h.below B2);clear d2 B2 D2 eV gR;refine Yo hK (gT) ?_;clear gT;refine Yt ?_;refine Ym fun K hK=>?_;have g3:ij [UInt8.ofNat s]=[.int .u8 (s:Int)]:=by
  have:=HS.h;simp[ij];omega
 have g4:Cells w2 (some ⟨w0.heap.size,0,none⟩) (ij [UInt8.ofNat s]):=by
  rw[g3];intro _;refine⟨_,_,rfl,ct.h.lt,fun k v hv=>?_⟩;rw[ct.h.cell];simpa using hv
 have g6:Cells w2 A (ij b):=HA.h.below (dW dS.h d3.h);obtain⟨g7,g8⟩:=dF g4 g6;clear g4 g6 g3;refine(Dn w1.heap.size _ 1 1 [UInt8.ofNat s] A n c b w2 d4.h.lt (d4.h.cell 0) (d4.h.cell 1) rfl HN.h ae ae ae g7.h g8.h).mono ?_;rintro e w3⟨A3,c3,rfl,eo,k3,g9,k6,b3⟩;have hh:([UInt8.ofNat s]++b).length=n+1:=by rw[aC,HN.h];simp;omega
 rw[hh] at eo g9⊢;have hk:aI Fs w2 w3:=fun j hj=>by rw[bQ.h] at hj;subst hj;exact b3.block _ (aA cn.h d3.h.size)
 have eW:=ao (dW d3.h b3);clear eo k3 g9 k6 b3 g7 g8 d4 ct d3 hh;refine Yo hK (hk) ?_;clear hk;refine Yt ?_;refine Ym fun K hK=>?_;obtain⟨w4,d5⟩:=Zn (w3.alloc (.cells #[.slice A3 (n+1) c3] 62));have B4:=Zw d5;have D4:aE w4 w3.heap.size 62 #[.slice A3 (n+1) c3]:=d5▸aE.new _ _ _;have ho:aI Fs w3 w4:=fun j hj=>by rw[bQ.h] at hj;subst hj;exact B4.block _ (aA cn.h eW.h.size)
 rw[<-d5];obtain⟨d6,eY⟩:=dF (dW eW.h B4) D4;clear d5 B4 D4 eW;refine Yo hK (ho) ?_;clear ho;refine Yt ?_;have H4:=bR.h.below d6.h;have ht:B0<=w4.heap.size:=H4.bs;have ep:=H4.row;have C4:Cells w4 (some ⟨w3.heap.size,0,none⟩) [.slice A3 (n+1) c3]:=by
  intro _;refine⟨_,_,rfl,eY.h.lt,fun k v hv=>?_⟩;rw[eY.h.cell];simpa using hv
 refine Zm fun K hK=>?_;refine fZ Yn ep (A:=some ⟨w3.heap.size,0,none⟩) (m:=1) (c:=1) (news:=[.slice A3 (n+1) c3]) _ _ rfl rfl rfl rfl bT C4 (by intro u hu;simp at hu;subst hu;rfl) ae ht (x.ln+1) _ rfl rfl ?_;intro A5 c5 w5 bU;have hy:(Value.slice x.la x.ln x.lc).ownBlock≠some ge:=fun e=>by
  have h6:=H4.t6 ge e;rw[H4.t1] at h6
  cases h6
 have eZ:w5.heap[ge]?=w4.heap[ge]?:=bU.grown.block ge H4.D.lt fun e=>hy e.symm;have D5:aE w5 ge 148 (x.cells P):=H4.D.block eZ;have k5:Cz w5 ge 15 (.slice x.la x.ln x.lc):=D5.cell 15;have f5:Fz w5 ge 15:=D5.frozen 15;have hB:aI Fs w4 w5:=fun j hj=>by rw[bQ.h] at hj;subst hj;exact eZ
 have er:=H4.log bU.own bU.grown (by rcases bU.jV with e|e;exact .inl e;exact .inr fun q hq=>by rw[e] at hq;injection hq with hq;omega);obtain⟨hC,hD,k7⟩:=fY er bU H4;clear H4 ht ep C4 hy eZ D5 bU er eY;refine Yo hK (hB) ?_;clear hB;refine Yt ?_;refine Zl fun K hK=>?_;go_simp;refine Yl hK ?_;refine aT ?_;obtain⟨w6,d7⟩:=Zn (w5.setCell ⟨ge,15,none⟩ (.slice A5 (x.ln+1) c5));rw[<-d7];have H6:=hC.h;rw[<-d7] at H6;have L6:Lv (fun q=>1<=ay q) w0 w6:=by
  rw[d7];refine Lv.setCell (p:=⟨ge,15,none⟩) ((Lv.bL d6.h).trans (Lv.dy hD.h.grown fun q hq=> .inl hq) fun q hq=>?_) ?_ _
  ·exact .inl (by rw[bR.h.t6 q hq];omega)
  ·show 1<=ay ge
   rw[bR.h.t1];omega
 have D6:aE w6 gr 104 #[.slice none 0 0, .slice none 0 0]:=eU.h.lv L6 (by rw[cm.h];omega);obtain⟨x6,fa⟩:=Zn ({x with la:=A5,ln:=x.ln+1,lc:=c5,Tw:=x.Tw++[.slice A3 (n+1) c3]}:N1);obtain⟨et,ff⟩:=Zn (mL (mL ay w0.heap.size fun _=>0) w4.heap.size fun _=>6);rw[<-fa,<-ff] at H6;have hE:=d6.h.size;have hH:∀q,q<w0.heap.size->et q=ay q:=fun q hq=>by rw[ff,fD ae,fD hq]
 have hI:x6.ln=x.ln+1/\x6.k=x.k/\x6.dl=x.dl:=fa▸⟨rfl,rfl,rfl⟩;have k8:ke x6.L=V:=H6.lk;have k9:Cz w6 ge 12 (Pz x6.gg):=H6.D.cell 12;have hJ:Cells w6 A (ij b):=L6.cells (HA.h.below dS.h) fun b0 o e h1=>by
  have fi:1<=ay b0:=h1;rw[gI.h] at fi
  by_cases hb:b0<w.heap.size
  ·rw[fD hb,kk.h b0 ⟨o,e⟩ hb] at fi;omega
  ·rw[lG ae] at fi;omega
 obtain⟨cv,fk,hL,fq,hM,lg⟩:=FW H6 L6 D6 hH hI hJ;clear H6 L6 D6 fa ff hE hH hI k8 hJ d7 hC hD k7 d6 k5 f5 bQ cn;have hG:=UK x6.Gs x6.R x6.gg x6.g x6.ob P G x6.C (s:Int) A n c b w6 cv.h.gt HN.h ae hc kf lg.h ⟨cA HS.h,cA HS.h⟩ ks.h kr.h;have hN:=ao hG;clear hG;go_wp2_with fail;refine hN.h.mono ?_;rintro e w7⟨A7,c7,Gs',rfl,cF,fx,d8,ew,ey⟩;rw[<-kn.h] at cF ey⊢;rw[<-kl.h] at fx;have H7:=cv.h.gate fx d8 ew;have L7:Lv (fun q=>1<=ay q) w0 w7:=fk.h.trans d8 fun q hq=>by
  by_cases h0:q<w0.heap.size
  ·left
   rw[<-fq.h q h0,cv.h.t5 q (by rcases hq with e|e|e;exact .inr (.inl e);exact .inr (.inr (.inr (.inl e)));exact .inr (.inr (.inr (.inr (.inl e)))))];omega
  ·exact .inr ae
 have ez:ge<w6.heap.size:=cv.h.D.lt;have eA:gr<w6.heap.size:=hL.h.lt;obtain⟨x7,fz⟩:=Zn ({x6 with Gs:=Gs'}:N1);obtain⟨eB,fH⟩:=Zn (mL et w6.heap.size fun _=>5);rw[<-fz,<-fH] at H7;have hO:∀q,q<w0.heap.size->eB q=ay q:=fun q hq=>by rw[fH,fD (cA fk.h.size),fq.h q hq]
 have hP:x7.ln=x.ln+1/\x7.k=x.k/\x7.dl=x.dl:=fz▸hM.h;have D7:aE w7 gr 104 #[.slice none 0 0, .slice none 0 0]:=eU.h.lv L7 (by rw[cm.h];omega);obtain⟨m7,d9⟩:=Zn O.length;have cH:w7.ownsRow w6.heap.size 65 9 (.slice A7 m7 c7) m7 (qJ O):=d9▸cF;rw[<-d9];obtain⟨bV,hQ,hT,lr,l3,hU,l4,hW,hX,nG⟩:=QM H7 L7 cH hO hP D7 d9 ez eA d8;clear H7 L7 cF cH hO hP D7 d9 ez eA fx d8 ew ey fz fH hN cv fk hL fq hM k9
 go_upto_region 3 with(fail)
 obtain⟨w8,ea⟩:=Zn (w7.alloc (.cells #[.slice A7 m7 c7, .slice none 0 0] 104));obtain⟨gq,eb⟩:=Zn w7.heap.size;have B8:=Zw ea;have D8:=Zq ea eb;rw[<-ea,<-eb];have H8:=bV.h.below B8;have a0:=H8.D.lt;have e0:∀u,Below w8.heap.size w8.drew u->Cz u ge 0 (.string (str P.code)):=fun u hu=>Yb hu a0 (H8.D.cell 0);have e1:∀u,Below w8.heap.size w8.drew u->Cz u ge 1 (.slice x7.ma P.E.length x7.mc):=fun u hu=>Yb hu a0 (H8.D.cell 1);have e2:∀u,Below w8.heap.size w8.drew u->Cz u ge 2 (Iz P.tick):=fun u hu=>Yb hu a0 (H8.D.cell 2);have e3:∀u,Below w8.heap.size w8.drew u->Cz u ge 3 (Iz P.low):=fun u hu=>Yb hu a0 (H8.D.cell 3);have e4:∀u,Below w8.heap.size w8.drew u->Cz u ge 4 (Iz P.high):=fun u hu=>Yb hu a0 (H8.D.cell 4);have e5:∀u,Below w8.heap.size w8.drew u->Cz u ge 5 (Iz P.wide):=fun u hu=>Yb hu a0 (H8.D.cell 5);have e6:∀u,Below w8.heap.size w8.drew u->Cz u ge 6 (Iz P.rule):=fun u hu=>Yb hu a0 (H8.D.cell 6);have e7:∀u,Below w8.heap.size w8.drew u->Cz u ge 7 (Iz P.top):=fun u hu=>Yb hu a0 (H8.D.cell 7);have e8:∀u,Below w8.heap.size w8.drew u->Cz u ge 8 (Iz P.least):=fun u hu=>Yb hu a0 (H8.D.cell 8);have e9:∀u,Below w8.heap.size w8.drew u->Cz u ge 9 (Iz P.part):=fun u hu=>Yb hu a0 (H8.D.cell 9);have hY:∀u,Below w8.heap.size w8.drew u->Cz u ge 10 (.slice x7.sa P.settle.length x7.sc):=fun u hu=>Yb hu a0 (H8.D.cell 10);have h4:∀u,Below w8.heap.size w8.drew u->Cz u ge 12 (Pz x7.gg):=fun u hu=>Yb hu a0 (H8.D.cell 12);obtain⟨a5,fT,f0,f1⟩:=mh H8 B8 D8 eb;clear ea eb B8 D8 H8 a0
 go_cut [8] (fun v8 wx=> ∃gv A8 n8 c8 L8,v8= Pz gv/\Hid (Seen w8 wx gv P G'.m.S A8 n8 c8 L8))
 case first=>
  refine Zy w8.heap.size 13 ?_;refine Zr [0,1,2,3,4,5,6,7] 5 ?_;refine Yr ?_;clear e0 e1 e2 e3 e4 e5 e6 e7 e8 e9 hY h4;obtain⟨wd,f2⟩:=Zn w8.drew;have I:Bz w8 wd:=f2▸aS (aa _ _);have n7:w8.heap.size<=wd.heap.size:=I.size;rw[<-f2];clear f2;refine Zf [8,11] 4 ?_;refine Zo (fun K hK=>?_) ?_
  ·go_simp
   refine(yU _ _ _ _ _ _ _ _ wd (a5.h.gt.below I)).mono ?_;rintro en u1⟨rfl,rfl⟩;refine Yo hK (aa _ _) ?_;refine Zf [9,11] 3 ?_;refine Zo (fun K hK=>?_) ?_
   ·go_simp
    refine(vy _ _ _ _ _ _ wd (a5.h.gt.below I).oO).mono ?_;rintro en u2⟨rfl,rfl⟩;refine Yo hK (aa _ _) ?_;refine Zf [10,11] 2 ?_;refine Zo (fun K hK=>?_) ?_
    ·go_simp
     refine(uM P x7.ma x7.mc x7.sa x7.sc x7.C.s G'.m.S _ _ wd (a5.h.pd.below I) ((a5.h.gt.below I).oO.st)).mono ?_;rintro en u3⟨A8,c8,L8,rfl,bc,bh,b8⟩;refine Yo hK (b8.mono I.size) ?_;have ed:Bz w8 u3:=I.trans (b8.mono I.size);have f3:wd.heap.size<=u3.heap.size:=b8.size;refine Zf [11] 1 ?_;refine Zo (fun K hK=>?_) ?_
     ·go_simp
      refine Yo hK ((au (aa _ _) _).mono ed.size) ?_;obtain⟨u4,eu⟩:=Zn (u3.alloc (.cells #[.slice none 0 0] 71));obtain⟨gv,ax⟩:=Zn u3.heap.size;have Da:=Zq eu ax;have ba:=Zw eu;have a7:w8.heap.size<=gv:=ax▸ed.size;have l5:Bz w8 u4:=ed.trans (ba.mono ed.size);rw[<-eu,<-ax];have cQ:u3.heap.size<=gv:=ax▸af _;clear eu ax;have z0:Cz u4 gv 0 (.slice none 0 0):=Da.cell 0;have y0:Fz u4 gv 0:=Da.frozen 0;refine Zf [12] 0 ?_;refine Zo (fun K hK=>?_) ?_
      ·go_simp
       have hb:Below w8.heap.size u4 (u4.setCell ⟨gv,0,none⟩ (.slice A8 L8.length c8)):=(aa _ _).setCell (p:=⟨gv,0,none⟩) a7 _;refine Yo hK (hb) ?_;refine Ze ?_;go_wp2_with fail;go_meet;exact⟨gv,A8,L8.length,c8,L8,rfl,ao ⟨Da.set 0 _,(bc.keep fun q h1 h2=>(ba.setCell (p:=⟨gv,0,none⟩) (by show _<=gv;omega) _).block q h2).base I.size,rfl,bh,l5.trans hb,a7⟩⟩
      exact aQ
     exact aQ
    refine Zo (fun K hK=>?_) ?_
    ·go_simp
     refine Yo hK ((au (aa _ _) _).mono I.size) ?_;obtain⟨u5,eu⟩:=Zn (wd.alloc (.cells #[.slice none 0 0] 71));obtain⟨gv,ax⟩:=Zn wd.heap.size;have Da:=Zq eu ax;have ba:=Zw eu;have a7:w8.heap.size<=gv:=ax▸I.size;have b2:Bz w8 u5:=I.trans (ba.mono I.size);rw[<-eu,<-ax];have cQ:wd.heap.size<=gv:=ax▸af _;clear eu ax;refine Zf [10] 1 ?_;refine Zo (fun K hK=>?_) ?_
     ·go_simp
      refine(uM P x7.ma x7.mc x7.sa x7.sc x7.C.s G'.m.S _ _ u5 (a5.h.pd.below b2) ((a5.h.gt.below b2).oO.st)).mono ?_;rintro en u6⟨A8,c8,L8,rfl,bc,bh,b8⟩;refine Yo hK (b8.mono b2.size) ?_;have l6:Bz w8 u6:=b2.trans (b8.mono b2.size);have eC:gv<u5.heap.size:=Da.lt;replace Da:=Da.below b8;have f3:u5.heap.size<=u6.heap.size:=b8.size;have z0:Cz u6 gv 0 (.slice none 0 0):=Da.cell 0;have y0:Fz u6 gv 0:=Da.frozen 0;refine Zf [12] 0 ?_;refine Zo (fun K hK=>?_) ?_
      ·go_simp
       have hb:Below w8.heap.size u6 (u6.setCell ⟨gv,0,none⟩ (.slice A8 L8.length c8)):=(aa _ _).setCell (p:=⟨gv,0,none⟩) a7 _;refine Yo hK (hb) ?_;refine Ze ?_;go_wp2_with fail;go_meet;exact⟨gv,A8,L8.length,c8,L8,rfl,ao ⟨Da.set 0 _,(bc.keep fun q h1 h2=>heap_setCell_other _ _ _ _ (by show q≠gv;omega)).base b2.size,rfl,bh,l6.trans hb,a7⟩⟩
      exact aQ
     exact aQ
    exact aQ
   refine Zo (fun K hK=>?_) ?_
   ·go_simp
    refine Yo hK ((au (aa _ _) _).mono I.size) ?_;obtain⟨u7,eu⟩:=Zn (wd.alloc (.cells #[.slice none 0 0] 71));obtain⟨gv,ax⟩:=Zn wd.heap.size;have Da:=Zq eu ax;have ba:=Zw eu;have a7:w8.heap.size<=gv:=ax▸I.size;have bp:Bz w8 u7:=I.trans (ba.mono I.size);rw[<-eu,<-ax];have cQ:wd.heap.size<=gv:=ax▸af _;clear eu ax;refine Zf [9] 2 ?_;refine Zo (fun K hK=>?_) ?_
    ·go_simp
     refine(vy _ _ _ _ _ _ u7 (a5.h.gt.below bp).oO).mono ?_;rintro en u8⟨rfl,rfl⟩;refine Yo hK (aa _ _) ?_;refine Zf [10] 1 ?_;refine Zo (fun K hK=>?_) ?_
     ·go_simp
      refine(uM P x7.ma x7.mc x7.sa x7.sc x7.C.s G'.m.S _ _ u7 (a5.h.pd.below bp) ((a5.h.gt.below bp).oO.st)).mono ?_;rintro en u9⟨A8,c8,L8,rfl,bc,bh,b8⟩;refine Yo hK (b8.mono bp.size) ?_;have l7:Bz w8 u9:=bp.trans (b8.mono bp.size);have eC:gv<u7.heap.size:=Da.lt;replace Da:=Da.below b8;have f3:u7.heap.size<=u9.heap.size:=b8.size;have z0:Cz u9 gv 0 (.slice none 0 0):=Da.cell 0;have y0:Fz u9 gv 0:=Da.frozen 0;refine Zf [12] 0 ?_;refine Zo (fun K hK=>?_) ?_
      ·go_simp
       have hb:Below w8.heap.size u9 (u9.setCell ⟨gv,0,none⟩ (.slice A8 L8.length c8)):=(aa _ _).setCell (p:=⟨gv,0,none⟩) a7 _;refine Yo hK (hb) ?_;refine Ze ?_;go_wp2_with fail;go_meet;exact⟨gv,A8,L8.length,c8,L8,rfl,ao ⟨Da.set 0 _,(bc.keep fun q h1 h2=>heap_setCell_other _ _ _ _ (by show q≠gv;omega)).base bp.size,rfl,bh,l7.trans hb,a7⟩⟩
      exact aQ
     exact aQ
    exact aQ
   exact aQ
  refine Zo (fun K hK=>?_) ?_
  ·go_simp
   refine Yo hK ((au (aa _ _) _).mono I.size) ?_;obtain⟨b7,eu⟩:=Zn (wd.alloc (.cells #[.slice none 0 0] 71));obtain⟨gv,ax⟩:=Zn wd.heap.size;have Da:=Zq eu ax;have ba:=Zw eu;have a7:w8.heap.size<=gv:=ax▸I.size;have a6:Bz w8 b7:=I.trans (ba.mono I.size);rw[<-eu,<-ax];have cQ:wd.heap.size<=gv:=ax▸af _;clear eu ax;refine Zf [8] 3 ?_;refine Zo (fun K hK=>?_) ?_
   ·go_simp
    refine(yU _ _ _ _ _ _ _ _ b7 (a5.h.gt.below a6)).mono ?_;rintro en n9⟨rfl,rfl⟩;refine Yo hK (aa _ _) ?_;refine Zf [9] 2 ?_;refine Zo (fun K hK=>?_) ?_
    ·go_simp
     refine(vy _ _ _ _ _ _ b7 (a5.h.gt.below a6).oO).mono ?_;rintro en od⟨rfl,rfl⟩;refine Yo hK (aa _ _) ?_;refine Zf [10] 1 ?_;refine Zo (fun K hK=>?_) ?_
     ·go_simp
      refine(uM P x7.ma x7.mc x7.sa x7.sc x7.C.s G'.m.S _ _ b7 (a5.h.pd.below a6) ((a5.h.gt.below a6).oO.st)).mono ?_;rintro en b9⟨A8,c8,L8,rfl,bc,bh,b8⟩;refine Yo hK (b8.mono a6.size) ?_;have h5:Bz w8 b9:=a6.trans (b8.mono a6.size);have eC:gv<b7.heap.size:=Da.lt;replace Da:=Da.below b8;have f3:b7.heap.size<=b9.heap.size:=b8.size;have z0:Cz b9 gv 0 (.slice none 0 0):=Da.cell 0;have y0:Fz b9 gv 0:=Da.frozen 0;refine Zf [12] 0 ?_;refine Zo (fun K hK=>?_) ?_
      ·go_simp
       have hb:Below w8.heap.size b9 (b9.setCell ⟨gv,0,none⟩ (.slice A8 L8.length c8)):=(aa _ _).setCell (p:=⟨gv,0,none⟩) a7 _;refine Yo hK (hb) ?_;refine Ze ?_;go_wp2_with fail;go_meet;exact⟨gv,A8,L8.length,c8,L8,rfl,ao ⟨Da.set 0 _,(bc.keep fun q h1 h2=>heap_setCell_other _ _ _ _ (by show q≠gv;omega)).base a6.size,rfl,bh,h5.trans hb,a7⟩⟩
      exact aQ
     exact aQ
    exact aQ
   exact aQ
  exact aQ
 obtain⟨gv,A8,n8,c8,L8,rfl,a2⟩:=hcut;obtain⟨w9,rfl⟩:=Zn wc;clear e0 e1 e2 e3 e4 e5 e6 e7 e8 e9 hY h4;have B9:=a2.h.jm;have H9:=a5.h.below B9;have D9:=f0.h.below B9;have h7:=H9.pd.right.cnt;obtain⟨N,eN⟩:=Zn P.count;have ef:ke x7.L=V:=H9.lk;have f4:x7.L.length=N:=by
  have:=HV.h.n;rw[<-ef] at this;unfold ke at this;rw[br] at this;rw[eN];exact this
 have cS:=look_ok H9.gt.oO.st;have l8:n8=N:=by
  have:=cS.n;rw[<-a2.h.eq] at this;unfold ke at this;rw[br] at this;rw[a2.h.n,eN];exact this
 subst l8;have v7:∀u,Bz w9 u->Qm u x7.vB x7.va n8 x7.vc x7.L:=fun u hu=>HV.h.Y9 ef (H9.vw.view.keep fun q _ h2=>hu.block q h2) eN;have v8:∀u,Bz w9 u->Qm u w8.heap.size A8 n8 c8 L8:=fun u hu=>cS.Y9 a2.h.eq (a2.h.vw.keep fun q _ h2=>hu.block q h2) eN;have eD:n8<=21:=eN▸h7.1;have eg:=H9.D.lt;have h8:=D9.lt;have f6:=a2.h.D.lt;have l9:∀u,Below w9.heap.size w9.drew u->Cz u ge 13 (.slice x7.va n8 x7.vc):=fun u hu=>(Yb hu eg (H9.D.cell 13)).trans (by rw[<-f4];rfl);have mg:∀u,Below w9.heap.size w9.drew u->Cz u ge 14 (Iz x7.seq):=fun u hu=>Yb hu eg (H9.D.cell 14);have mi:∀u,Below w9.heap.size w9.drew u->Cz u gv 0 (.slice A8 n8 c8):=fun u hu=>Yb hu f6 (a2.h.D.cell 0);have ei:=fun u (hu:Bz w9 u)=>Tv x7.vB w8.heap.size x7.va A8 n8 x7.vc c8 x7.L L8 x7.seq u (v7 u hu) (v8 u hu) eD;rw[ef,a2.h.eq] at ei;obtain⟨nf,f7⟩:=Zn (wj V (kN P G'.m.S));rw[<-f7] at ei;obtain⟨h9,ia,ib,ml,m3,m4,m5⟩:=yY ei D9 (And.intro eg (And.intro h8 f6)) B9 H9 f7 f4;clear B9 H9 D9 h7 eN ef f4 cS v7 v8 eD eg h8 f6 ei f7
 go_upto_region 4 with(fail)
 refine Zb w9.heap.size 11 [9,11] [0,1,2,3,4,5,6,7,8,9,10,11] ?_;refine Yt ?_;clear l9 mg mi;refine Ym fun K hK=>?_;have I:Bz w9 w9.drew:=aS (aa _ _);refine(h9.h w9.drew I).mono ?_;rintro en wf⟨Af,cf,rfl,bf⟩;refine Yo hK (bf) ?_;have Bf:Bz w9 wf:=I.trans bf;have Df:=ia.h.below Bf;have z1:Cz wf gq 1 (.slice none 0 0):=Df.cell 1;have y1:Fz wf gq 1:=Df.frozen 1;refine Yt ?_;refine Zl fun K hK=>?_;go_simp;refine Yl hK ?_;refine aT ?_;obtain⟨wg,cd⟩:=Zn (wf.setCell ⟨gq,1,none⟩ (.slice Af nf cf));rw[<-cd];have ih:gq<w8.heap.size:=f0.h.lt;have Dg:aE wg gq 104 #[.slice A7 m7 c7, .slice Af nf cf]:=cd▸Df.set 1 _;have f8:∀q,q<w9.heap.size->q≠gq->wg.heap[q]?=w9.heap[q]?:=fun q h1 h2=>by
  rw[cd,heap_setCell_other _ _ _ _ h2];exact Bf.block q h1
 have Bg:Bz w7 wg:=cd▸(dW (dW fT.h a2.h.jm) Bf).setCell (p:=⟨gq,1,none⟩) (bu f1.h.symm) _;have m6:w9.heap.size<=wg.heap.size:=by rw[cd,lQ];exact Bf.size
 have vg:Qp wg w7.heap.size wg.heap.size A8 c8 L8:=Qp.new ((a2.h.vw.keep fun q h1 h2=>f8 q h2 ae).base fT.h.size);have eE:gv≠gq:=cA a2.h.lo;have m8:Cz wg gv 0 (.slice A8 n8 c8):=Yd (f8 gv ib.h.2.2 eE) (a2.h.D.cell 0);have il:Cz wg ge 13 (.slice x7.va x7.L.length x7.vc):=(bV.h.D.below Bg).cell 13;have iF:Fz wg ge 13:=(bV.h.D.below Bg).frozen 13;have cT:ge≠gr:=fun e=>by
  have h1:=bR.h.t1;rw[e,cm.h] at h1
  cases h1
 have cX:gq≠ge/\gq≠gr:=by
  have h1:=bV.h.D.lt;have h2:=hU.h.lt;have h3:=f1.h;omega
 have Dr:aE wg gr 104 #[.slice none 0 0, .slice none 0 0]:=hU.h.below Bg;have eF:wg.ownsRow w6.heap.size 65 9 (.slice A7 m7 c7) m7 (qJ O):=jU hT.h fun q _ h2=>Bg.block q h2;have bb:=bV.h.seen Bg vg a2.h.eq a2.h.n;obtain⟨m9,i3,i4,eI,eJ,i5,i6,i7⟩:=Dw (show w7.heap.size<=wg.heap.size from Bg.size) Bg Dg bb Dr eF cT cX;clear cd f8 Bg vg eE bb Dr eF cT cX Dg Df z1 y1 ih m6 Bf bf I h9 fT a2 f0 f1 bV m3 ia ib ml m5
 go_upto_region 6 with(fail)
 obtain⟨wh,bt⟩:=Zn (wg.setCell ⟨ge,13,none⟩ (.slice A8 n8 c8));rw[<-bt];have bb:=eI.h;rw[<-bt] at bb;have Dh:aE wh gq 104 #[.slice A7 m7 c7, .slice Af nf cf]:=bt▸i4.h.block (heap_setCell_other _ _ _ _ i7.h.1);have i9:aE wh gr 104 #[.slice none 0 0, .slice none 0 0]:=bt▸eJ.h.block (heap_setCell_other _ _ _ _ (fun e=>i6.h e.symm));have eK:ge<w6.heap.size:=hW.h;have c0:wh.ownsRow w6.heap.size 65 9 (.slice A7 m7 c7) m7 (qJ O):=bt▸jU i5.h fun q h1 _=>heap_setCell_other _ _ _ _ (by show q≠ge;omega);have j0:Lv (fun q=>1<=ay q) w0 wh:=by
  rw[bt];refine Lv.setCell (p:=⟨ge,13,none⟩) (hQ.h.cV i3.h) ?_ _;show 1<=ay ge;rw[bR.h.t1];omega
 have j1:∀u,aR wh.drew u->Cz u ge 14 (Iz x7.seq):=fun u hu=>Yb hu (show ge<wh.drew.heap.size from bb.D.lt) (bb.D.cell 14);have na:∀u,aR wh.drew u->Cz u gq 1 (.slice Af nf cf):=fun u hu=>Yb hu (show gq<wh.drew.heap.size from Dh.lt) (Dh.cell 1);obtain⟨bH,j2,eL,eM,eP⟩:=rU bb Dh i9 c0 j0;clear bb Dh i9 c0 j0 bt eI i4 eJ i5 hT i3 m8 il iF eK;refine bx (R:=aR) 10 [10] [0,1,2,3,4,5,6,7,8,9,10] (by kernel_rfl) aR.tr aR.J (by kernel_rfl) (fun _ _ _ _ _ h=>h) ?_;refine Yt ?_;have nb:=j1 wh.drew (aR.J _);have ni:Fz wh.drew ge 14:=bH.h.D.frozen 14;clear j1 na;refine Zl fun K hK=>?_;go_simp;refine Yl hK ?_;refine aT ?_;obtain⟨sq,j3⟩:=Zn (IntKind.i64.wrap (x7.seq+(nf:Int)));rw[<-j3];clear j3;obtain⟨wi,bE⟩:=Zn ((wh.setCell ⟨ge,14,none⟩ (Iz sq)).drew);rw[<-bE];have Di:aE wi gq 104 #[.slice A7 m7 c7, .slice Af nf cf]:=bE▸j2.h.block (heap_setCell_other _ _ _ _ i7.h.1);have ck:aE wi gr 104 #[.slice none 0 0, .slice none 0 0]:=bE▸eL.h.block (heap_setCell_other _ _ _ _ (fun e=>i6.h e.symm));have ej:=(bH.h.YZ sq).below (aS (aa _ _));rw[<-bE] at ej;have eK:ge<w6.heap.size:=hW.h;have j4:gr<w6.heap.size:=hX.h;have dc:wi.ownsRow w6.heap.size 65 9 (.slice A7 m7 c7) m7 (qJ O):=bE▸jU eM.h fun q h1 _=>heap_setCell_other _ _ _ _ (by show q≠ge;omega);have j5:Lv (fun q=>1<=ay q) w0 wi:=by
  rw[bE];refine Lv.drew (Lv.setCell (p:=⟨ge,14,none⟩) eP.h ?_ _);show 1<=ay ge;rw[bR.h.t1];omega
 have f9:w7.heap.size<=(wh.setCell ⟨ge,14,none⟩ (Iz sq)).heap.size:=by
  rw[lQ];exact aF m9.h bH.h.vw.1
 obtain⟨zz,j6⟩:=Zn ((wh.setCell ⟨ge,14,none⟩ (Iz sq)).heap.size);rw[<-j6] at f9 ej;have nj:=ao f9;have q0:=Di.cell 0;have q1:=Di.cell 1;have r0:=ck.cell 0;have r1:=ck.cell 1;have s0:=ck.frozen 0;have s1:=ck.frozen 1;have hw:=bO (us:=[.slice A7 m7 c7, .slice Af nf cf]) ck rfl;simp only[fW] at hw;obtain⟨j7,j8,j9,HW⟩:=mh ej dc j5 hw;clear Di ck ej dc j5 hw bE nb ni j2 eL eM eP bH f9 j6;go_wp2_with fail;have eQ:gr<w0.heap.size:=eU.h.lt;have n3:=dS.h.size;have n4:w0.heap.size<=w7.heap.size:=hQ.h.size;have hz:=nj.h;have gi:∀q,q<w0.heap.size->mL (mL eB w7.heap.size fun _=>8) zz (fun _=>0) q=ay q:=fun q hq=>by
  rw[fD ae,fD ae,lr.h q hq]
 have ka:∀q,q<w.heap.size->ay q=tag q:=fun q hq=>by rw[gI.h,fD hq]
 have HZ:=(j7.h.off (gr:=gr) (i:=0) ((gi gr eQ).trans cm.h) (.slice A7 m7 c7)).off (gr:=gr) (i:=1) ((gi gr eQ).trans cm.h) (.slice Af nf cf);have j4:gr<w6.heap.size:=hX.h;have eR:((wi.setCell ⟨gr,0,none⟩ (.slice A7 m7 c7)).setCell ⟨gr,1,none⟩ (.slice Af nf cf)).ownsRow w6.heap.size 65 9 (.slice A7 m7 c7) m7 (qJ O):=
  jU (jU j8.h fun q h1 _=>heap_setCell_other _ _ _ _ (by show q≠gr;omega)) fun q h1 _=>heap_setCell_other _ _ _ _ (by show q≠gr;omega)
 have LZ:Lv (fun q=>1<=tag q) w ((wi.setCell ⟨gr,0,none⟩ (.slice A7 m7 c7)).setCell ⟨gr,1,none⟩ (.slice Af nf cf)):=by
  have L1:Lv (fun q=>1<=tag q\/q=gr) w wi:=(Lv.bL dS.h).trans j9.h fun q hq=>by
   by_cases h0:q<w.heap.size
   ·exact .inl (.inl (by rw[<-ka q h0];exact hq))
   ·exact .inr ae
  refine((L1.setCell (p:=⟨gr,0,none⟩) (.inr rfl) _).setCell (p:=⟨gr,1,none⟩) (.inr rfl) _).mono fun q hq=>?_;rcases hq with h1|h1
  ·exact .inl h1
  ·exact .inr (h1▸kx.h▸af _)
 have DW:=HW.h;obtain⟨wz,nk⟩:=Zn ((wi.setCell ⟨gr,0,none⟩ (.slice A7 m7 c7)).setCell ⟨gr,1,none⟩ (.slice Af nf cf));rw[<-nk] at DW HZ eR LZ⊢;have t0:Cz wz gr 0 (.slice A7 m7 c7):=DW.cell 0;have t1:Cz wz gr 1 (.slice Af nf cf):=DW.cell 1;refine bodyPost_ret (v:= .agg #[.slice A7 m7 c7, .slice Af nf cf]) (by simp[results,Tryz.results80,go_sem,t0,t1];try rfl) rfl ?_;obtain rfl:=l4.h;refine⟨A7,c7,nf,⟨Af,cf,rfl⟩,m4.h,ch eR (aB _),_,_,HZ,fun q hq=>(gi q ae).trans (ka q hq),LZ,l3.h⟩
theorem Qq (B0 ge:Nat) (P:PD) (G:vJ) (V:vZ) (x:N1) (tag:Nat->Nat) (y:List UInt8) (A:Option Addr) (n c:Nat) (w:World) (h:kP w B0 ge P G V x tag) (hn:y.length=n) (J:n<=255) (hk:x.k<=1000000000) (O:x.dl.length+n+6<=1048576) (hA:Cells w A (ij y)):
  Wz 81 #[Pz x.j, .slice A n c] w fun e w'=>e= .returned (Iz 0)/\∃r',kP w' B0 ge P G V {x with r:=r',dl:=x.dl++nh y,k:=x.k+1} (mL tag w.heap.size fun _=>4)/\Lv (fun q=>1<=tag q) w w'/\w'.heap[ge]?=w.heap[ge]?:=by
 have ax:x.j≠x.d:=fun e=>by
  have h1:=h.t3;rw[e,h.t2] at h1
  cases h1
 have ay:some x.j≠x.r:=fun e=>by
  have h1:=h.t4 _ e.symm;rw[h.t3] at h1
  cases h1
 refine(J5 x.j x.d x.k x.r x.dl y x.ds A n c w h.jr h.dk ax ay hn J hk O hA).mono ?_;rintro e w'⟨rfl,r',D',a0,J',L⟩;have I:=h.t1;refine⟨rfl,r',h.YY L D' a0 J',⟨L.os,L.tape,L.output,L.size,fun q hq hf=>L.block q hq (fun e=>hf ?_) (fun e=>hf ?_) (fun e=>hf ?_)⟩,L.block ge h.D.lt (fun e=>?_) (fun e=>?_) (fun e=>?_)⟩
 ·show 1<=tag q
  rw[e,h.t2];omega
 ·show 1<=tag q
  rw[e,h.t3];omega
 ·show 1<=tag q
  rw[h.t4 q e.symm];omega
 ·rw[e,h.t2] at I;cases I
 ·rw[e,h.t3] at I;cases I
 ·rw[h.t4 ge e.symm] at I;cases I
theorem N2 {T:TypeId} {g i:Nat} (h:w.ownsRow B e z v n xs) (hg:aE w g T cs) (I:e≠T) (u:Value):(w.setCell ⟨g,i,none⟩ u).ownsRow B e z v n xs:=by
 refine⟨h.1,?_⟩;rcases h.2 with J|⟨b,cap,cur,hv,O,D,rest⟩
 ·exact .inl J
 ·refine .inr ⟨b,cap,cur,hv,O,(heap_setCell_other _ _ _ _ ?_).trans D,rest⟩
  rintro rfl;unfold aE at hg;have e1:=D.symm.trans hg;injection e1 with e1;injection e1 with _ e2;exact I e2
def Yp (w:World) (B0 ge:Nat) (P:PD) (G:vJ) (V:vZ) (x:N1) (tag:Nat→Nat) (s:Nat) (b:List UInt8) (e:Ending) (w':World):Prop:=
 ∃A1 c1 n2 A2 c2 x' tag',e= .returned (.agg #[.slice A1 (yb P G s b).2.length c1, .slice A2 n2 c2])∧n2=wj V (kN P (yb P G s b).1.m.S)∧
   sO 0 w' A1 c1 (yb P G s b).2∧kP w' B0 ge P (yb P G s b).1 (kN P (yb P G s b).1.m.S) x' tag'∧(∀q,q<w.heap.size→tag' q=tag q)∧Lv (fun q=>1≤tag q) w w'∧x'.ln=x.ln+1∧x'.k=x.k+1∧x'.dl=x.dl++nh (UInt8.ofNat s::b)
theorem Ve (B0 ge:Nat) (P:PD) (G:vJ) (V:vZ) (x:N1) (tag:Nat->Nat) (s:Nat) (A:Option Addr) (n c:Nat) (b:List UInt8) (w:World) (h:kP w B0 ge P G V x tag) (hV:Yk P V) (hs:s<8) (hn:b.length=n) (hl:n<=254) (hc:n<=c) (cF:c<=9223372036854775807) (hA:Cells w A (ij b)) (cH:∀q,qP A q->q<w.heap.size->tag q=0)
  (cQ:G.m.un<1000000) (cS:G.on+3+1503*(gw s b).1.aw.toNat<1000000) (eE:x.ln<=1000) (hk:x.k<=1000000000) (bE:x.dl.length+n+7<=1048576) (cT:(gw (s:Int) b).2=0) (eF:b≠[]):
  Wz 49 #[Pz ge,Iz (s:Int), .slice A n c] w (Yp w B0 ge P G V x tag s b):=by
 obtain⟨H,HV,HN,HA,eG,eI,HS,cX,eJ,HK,eK⟩:=Hl h hV hn hA cS cQ hs cH cT hk bE;clear h hV hn hA cS cQ hs cH cT hk bE
 go_enter Tryz.func49,Tryz.ntmps49
 go_upto_region 1 with(fail)
 obtain⟨w0,a2⟩:=Zn (w.alloc (.cells #[.slice none 0 0, .slice none 0 0] 104));obtain⟨gr,a5⟩:=Zn w.heap.size;have b8:=Zw a2;have DR:=Zq a2 a5;rw[<-a2,<-a5];have H0:=H.h.below b8;have eL:Cz w0 ge 12 (Pz x.gg):=H0.D.cell 12;obtain⟨c0,dc,eM,dp⟩:=mh b8 DR H0 a5;clear a2 b8 DR H0 a5;go_wp2_with fail;refine(Mh _ (s:Int) A n c b w0 HN.h (by omega) hc cF (HA.h.below c0.h)).mono ?_;rw[eJ.h];rintro e w1⟨rfl,b1⟩;obtain⟨ax,dS⟩:=dF (dW c0.h b1) (dc.h.below b1);have H1:=H.h.below ax.h;obtain⟨dT,b9⟩:=Zn (mL tag w.heap.size fun _=>0);rw[<-b9] at H1;obtain⟨Fs,cd⟩:=Zn (fun j=>j=ge:Nat->Prop);have m0:Fs ge:=by rw[cd]
 have k1:∀u,aI Fs w1.drew u->Cz u ge 11 (Pz x.j):=fun u hu=>(hu.cell m0).trans (H1.D.cell 11);obtain⟨a6,cf,eN,d2⟩:=mh cd H1.D.lt H1 b9;clear b1 eL H1 eM dc b9 m0 cd
 go_upto_region 3 with(fail)
 refine bx (R:=aI Fs) 99999 [6,8,9,10] [0,1,2,3,4,5,7,6,8,9,10,11] (by kernel_rfl) (aI.tr _) (aI.J _) (by kernel_rfl) (fun _ _ _ _ _ h=>h) ?_;refine Yt ?_;clear k1;refine Ym fun K hK=>?_;have d3:IntKind.u8.wrap (s:Int)=(s:Int):=by have:=HS.h;rw[IntKind.wrap_u8];omega
 rw[d3];obtain⟨v1,a7⟩:=Zn ((w1.alloc (.cells #[.int .u8 (s:Int)] 5)).drew);have B1:Bz w1 v1:=by rw[a7];exact aS (au (aa _ _) _)
 have D1:aE v1 w1.heap.size 5 #[.int .u8 (s:Int)]:=by rw[a7];exact(aE.new _ _ _).drew
 have d4:aI Fs w1.drew v1:=fun j hj=>by rw[a6.h] at hj;subst hj;exact B1.block _ cf.h
 rw[<-a7];obtain⟨ck,d5⟩:=dF B1 D1;clear a7 B1 D1 d3;refine Yo hK (d4) ?_;clear d4;refine Yt ?_;refine Ym fun K hK=>?_;obtain⟨v2,a8⟩:=Zn (v1.alloc (.cells #[.slice (some ⟨w1.heap.size,0,none⟩) 1 1, .slice A n c] 62));have B2:=Zw a8;have D2:aE v2 v1.heap.size 62 #[.slice (some ⟨w1.heap.size,0,none⟩) 1 1, .slice A n c]:=by rw[a8];exact aE.new _ _ _
 have d6:aI Fs v1 v2:=fun j hj=>by rw[a6.h] at hj;subst hj;exact B2.block _ (aA cf.h ck.h.size)
 rw[<-a8];obtain⟨ba,bb,ay⟩:=fY (dW ck.h B2) D2 (d5.h.below B2);clear a8 B2 D2 ck d5;refine Yo hK (d6) ?_;clear d6;refine Yt ?_;refine Ym fun K hK=>?_;have d7:ij [UInt8.ofNat s]=[.int .u8 (s:Int)]:=by
  have:=HS.h;simp[ij];omega
 have d8:Cells v2 (some ⟨w1.heap.size,0,none⟩) (ij [UInt8.ofNat s]):=by
  rw[d7];intro _;refine⟨_,_,rfl,ay.h.lt,fun k v hv=>?_⟩;rw[ay.h.cell];simpa using hv
 have d9:Cells v2 A (ij b):=HA.h.below (dW ax.h ba.h);obtain⟨ea,eb⟩:=dF d8 d9;clear d8 d9 d7;refine(Dn v1.heap.size _ 1 1 [UInt8.ofNat s] A n c b v2 bb.h.lt (bb.h.cell 0) (bb.h.cell 1) rfl HN.h (by omega) (by omega) (by omega) ea.h eb.h).mono ?_;rintro e v3⟨A3,c3,rfl,bH,ed,ef,eO,b3⟩;have cl:([UInt8.ofNat s]++b).length=n+1:=by rw[aC,HN.h];simp;omega
 rw[cl] at bH ef⊢;have eg:aI Fs v2 v3:=fun j hj=>by rw[a6.h] at hj;subst hj;exact b3.block _ (aA cf.h ba.h.size)
 obtain⟨a0,eP,eQ⟩:=fY (dW ba.h b3) ed cl;clear bH ed ef eO b3 ea eb bb ay ba cl;refine Yo hK (eg) ?_;clear eg;refine Yt ?_;refine Ym fun K hK=>?_;have H3:=eN.h.below a0.h;obtain⟨I,bc⟩:=Zn (mL dT w1.heap.size fun _=>0);rw[<-bc] at H3;refine(Qq B0 ge P G V x I ([UInt8.ofNat s]++b) A3 (n+1) c3 v3 H3 eQ.h (by omega) HK.h (by have:=eK.h;omega) eP.h).mono ?_;rintro e w4⟨rfl,r4,H4,L4,ei⟩;have ej:aI Fs v3 w4:=fun j hj=>by rw[a6.h] at hj;subst hj;exact ei
 obtain⟨x4,cm⟩:=Zn ({x with r:=r4,dl:=x.dl++nh ([UInt8.ofNat s]++b),k:=x.k+1}:N1);obtain⟨O,bf⟩:=Zn (mL I v3.heap.size fun _=>4);rw[<-cm,<-bf] at H4;have ek:x4.ln=x.ln/\x4.k=x.k+1/\x4.dl=x.dl++nh (UInt8.ofNat s::b):=by rw[cm];exact⟨rfl,rfl,rfl⟩
 have h1:=ax.h.size;have h2:=a0.h.size;have bh:∀q,q<w.heap.size->I q=tag q:=fun q hq=>by rw[bc,fD (by omega),d2.h,fD hq]
 have t4:∀q,q<w.heap.size->O q=tag q:=fun q hq=>by rw[bf,fD (by omega),bh q hq]
 have bQ:gr<w1.heap.size:=dS.h.lt;have cn:I gr=0:=by rw[bc,fD bQ,d2.h,dp.h,lG (af _)]
 have el:O gr=0:=by rw[bf,fD (by omega),cn]
 have bp:∀q,qP A q->q<w.heap.size:=fun q ⟨o,ho⟩=>by
  obtain⟨g,o',h3,h4,_⟩:=HA.h (by intro e;have e2:=congrArg List.length e;rw[kW] at e2;exact eF (aP e2));rw[ho] at h3;injection h3 with h3;injection h3 with h3;omega
 have A4:Cells w4 A (ij b):=L4.cells ((HA.h.below ax.h).below a0.h) fun q o e h5=>by
  have h6:=bp q ⟨o,e⟩;have eR:1<=I q:=h5;rw[bh q h6,cX.h q ⟨o,e⟩ h6] at eR;omega
 have D4:aE w4 gr 104 #[.slice none 0 0, .slice none 0 0]:=(dS.h.below a0.h).lv L4 (by rw[cn];omega);have eo:Lv (fun q=>1<=tag q\/w.heap.size<=q) w w4:=((Lv.bL ax.h).cV a0.h).trans L4 fun q hq=>by
  by_cases h0:q<w.heap.size
  ·exact .inl (.inl (by rw[<-bh q h0];exact hq))
  ·exact .inr (by omega)
 have bR:∀q,qP A q->q<w4.heap.size->O q=0:=fun q hq _=>by rw[t4 q (bp q hq),cX.h q hq (bp q hq)]
 obtain⟨eS,bt,ep,bU,eT,er,bV,et⟩:=Dw H4 ek t4 el A4 D4 eo bR;clear H3 bc H4 L4 ei cm bf ek h1 h2 bh t4 bQ cn el bp A4 D4 eo bR;refine Yo hK (ej) ?_;clear ej;refine Yt ?_;refine aT ?_;go_wp2_with fail;refine(Vd B0 ge P G V x4 O s A n c b w4 eS.h HV.h HS.h HN.h (by omega) hc cF eT.h et.h eI.h eG.h (by rw[bt.h.1];exact eE)).mono ?_;rintro e w5⟨A1,c1,n2,A2,c2,x5,b0,rfl,eu,b2,H5,ew,L5,ey⟩;have D5:aE w5 gr 104 #[.slice none 0 0, .slice none 0 0]:=er.h.lv L5 (by rw[bU.h];omega);have r0:=D5.cell 0;have r1:=D5.cell 1;have s0:=D5.frozen 0;have s1:=D5.frozen 1;have hw:=bO (us:=[.slice A1 (yb P G (s:Int) b).2.length c1, .slice A2 n2 c2]) D5 rfl;simp only[fW] at hw;obtain⟨m5,ct⟩:=Zn ((yb P G (s:Int) b).2.length);rw[<-ct] at hw⊢;obtain⟨HW,eU,eV,eW,ez,eY,cv,eZ,eA⟩:=QG hw eu b2 H5 ew L5 ey ct D5;clear hw eu b2 H5 ew L5 ey ct D5;go_wp2_with fail;have eB:gr<w4.heap.size:=er.h.lt;have eC:b0 gr=0:=(ez.h gr eB).trans bU.h;have e3:=bV.h.size;have DA:=eA.h.set 0 (.slice A1 m5 c1);have HZ:=(eW.h.off (gr:=gr) (i:=0) eC (.slice A1 m5 c1)).off (gr:=gr) (i:=1) eC (.slice A2 n2 c2);have b7:=N2 (i:=1) (N2 (i:=0) eV.h eA.h (by decide) (.slice A1 m5 c1)) DA (by decide) (.slice A2 n2 c2);have LZ:Lv (fun q=>1<=tag q) w ((w5.setCell ⟨gr,0,none⟩ (.slice A1 m5 c1)).setCell ⟨gr,1,none⟩ (.slice A2 n2 c2)):=by
  have L1:Lv (fun q=>1<=tag q\/w.heap.size<=q) w w5:=bV.h.trans eY.h fun q hq=>by
   by_cases h0:q<w.heap.size
   ·exact .inl (.inl (by rw[<-ep.h q h0];exact hq))
   ·exact .inr (by omega)
  have eD:w.heap.size<=gr:=by rw[dp.h];exact af _
  refine((L1.setCell (p:=⟨gr,0,none⟩) (.inr eD) _).setCell (p:=⟨gr,1,none⟩) (.inr eD) _).mono fun q hq=>?_;rcases hq with h1|h1
  ·exact .inl h1
  ·exact .inr h1
 have DW:=HW.h;obtain⟨wz,e0⟩:=Zn ((w5.setCell ⟨gr,0,none⟩ (.slice A1 m5 c1)).setCell ⟨gr,1,none⟩ (.slice A2 n2 c2));rw[<-e0] at DW HZ b7 LZ⊢;have t0:Cz wz gr 0 (.slice A1 m5 c1):=DW.cell 0;have t1:Cz wz gr 1 (.slice A2 n2 c2):=DW.cell 1;refine bodyPost_ret (v:= .agg #[.slice A1 m5 c1, .slice A2 n2 c2]) (by simp[results,Tryz.results49,go_sem,t0,t1];try rfl) rfl ?_;refine⟨A1,c1,n2,A2,c2,x5,b0,by rw[eZ.h],eU.h,b7,HZ,fun q hq=>(ez.h q (by omega)).trans (ep.h q hq),LZ,?_,?_,?_⟩
 ·rw[cv.h.1,bt.h.1]
 ·rw[cv.h.2.1,bt.h.2.1]
 ·rw[cv.h.2.2,bt.h.2.2]
theorem MM (A:Option Addr) (n c:Nat) (xs:List Value) (w:World) (hn:xs.length=n*1) (O:n<=1000000) (hA:Cells w A xs) (h1:∀u∈xs,u.oneCell'=true) (D:A=none->c=0):
  Wz 76 #[.slice A n c] w fun e w'=>xq w w' 2 1 A n xs e:=by
 rcases A with _|a
 ·obtain⟨rfl,rfl⟩:=xr hA hn ae
  obtain rfl:=D rfl;have D:=Lib.run_eql_slice_nil (P:=Tryz.prog) w 23 2 none 0 0 0 0 Tryz.underlying23
  go_enter Tryz.func76,Tryz.ntmps76
  go_wp2;go_ret;exact⟨none,0,rfl,aM _ _ _ _, .inl rfl,aa _ _⟩
 ·have D:=Lib.run_eql_slice_nil (P:=Tryz.prog) w 23 2 (some a) n c 0 0 Tryz.underlying23
  have HN:=ao hn;clear hn
  go_enter Tryz.func76,Tryz.ntmps76
  go_wp2_with (at_builtin
               refine lK sL (cI (base:=w.heap.size) w #[] 0 (af _) (aB _) rfl) (news:=xs) rfl _ _ rfl rfl rfl HN (hA.alloc _) h1 ae bT n xs ae bT ?_;intro A' c' w2 J)
  go_ret;refine⟨A',c',rfl,J.own, .inr ?_,J.below _ _ (af _) (au (aa _ _) _)⟩;rcases J.jV with O|O
  ·rcases J.own.2 with⟨I,_⟩|⟨g,cap,cur,hv,hb,_⟩
   ·injection I with I;subst I;simp[Value.ownBlock] at O
   ·injection hv with hv;exact⟨g,hv,hb⟩
  ·rcases J.own.2 with⟨I,_⟩|⟨g,cap,cur,hv,hb,_⟩
   ·injection I with I;subst I;simp[Value.ownBlock] at O
   ·injection hv with hv;exact⟨g,hv,hb⟩
theorem Qr (B:Nat) (P:PD) (ma:Option Addr) (mc:Nat) (sa:Option Addr) (sc:Nat) (d:Nat) (w:World) (h:iZ w P ma sa) (hD:fj w d none [] 0) (hB:B<=d) (ey:∀q,qP ma q\/qP sa q->q≠d):
  Wz 47 #[P.val ma mc sa sc, Pz d] w fun e w'=> ∃ge x tag,e= .returned (.tuple #[Pz ge,Iz 0])/\kP w' B ge P (vJ.new P) (kN P (Mk.new P).S) x tag/\x.ln=0/\x.k=0/\x.dl=[]/\(∀q,q<w.heap.size->q≠d->tag q=0)/\Lv (fun q=>q=d) w w':=by
 have hP:=h.right;obtain⟨w0,bc⟩:=Zn (w.alloc (.cells (P.cells ma mc sa sc) 25));obtain⟨g,eg⟩:=Zn w.heap.size;have B0:=Zw bc;have D0:=Zq bc eg;have h0:=h.below B0;obtain⟨c0,c1,c2,c3,c4,c5,c6,c7,c8,c9,wJ⟩:=fM.gX (w:=w0) (g:=g) D0;have cd:=SK P ma mc sa sc w0 h0;have cf:=hD.jC.1;obtain⟨H0,a0,cQ,HP,EG,ez,ck⟩:=yY h0 D0 B0 hP eg hD cf;rw[PD.jt] at cd⊢;have cS:=ao cd;clear h h0 D0 B0 hP cd hD cf
 go_enter Tryz.func47,Tryz.ntmps47
 go_upto_region 1 with(fail)
 rw[<-bc,<-eg];clear bc eg;go_wp2_with fail;refine cS.h.mono ?_;rintro e w1⟨gg,gm,ob,C,Gs,R,rfl,gt,b1,cT⟩;obtain⟨cX,cl,a2⟩:=fY gt cT b1;have b2:=(ez.h.below cQ.h).below b1;have dc:=ao b2;clear c0 c1 c2 c3 c4 c5 c6 c7 c8 c9 wJ gt cT b1 cS b2;go_wp2_with fail;refine(Qk d none [] 0 w1 dc.h rfl).mono ?_;rintro e I⟨j,A2,n2,c2,e7,r2,rfl,dp,dS,eA,eB,dT,hJ,hj,d2,D2,d3,L2⟩;obtain rfl:n2=0:=dp.symm;obtain⟨HJ,eC,eD,bf,d4,O⟩:=FW hJ hj d2 D2 d3 L2;clear dp dS eA eB dT hJ hj d2 D2 d3 L2
 go_upto_region 7 with(fail)
 have D1:aE I g 25 (P.cells ma mc sa sc):=(a0.h.below a2.h).block (O.h.block g (a0.h.below a2.h).lt (by have:=ck.h;have:=EG.h;omega) (by simp));have h2:iZ I P ma sa:=(H0.h.below a2.h).same (fun k hk eE=>O.h.block k eE (ey k hk) (by simp)) O.h.size;have e9:g<I.heap.size:=D1.lt;have l1:∀u,Below I.heap.size I.drew u->Cz u g 1 (.slice ma P.E.length mc):=fun u hu=>(D1.below ((aS (aa _ _)).trans hu)).cell 1;have d5:∀u,Below I.heap.size I.drew u->Cz u g 10 (.slice sa P.settle.length sc):=fun u hu=>(D1.below ((aS (aa _ _)).trans hu)).cell 10;obtain⟨n1,a5⟩:=Zn P.E.length;obtain⟨n2,a6⟩:=Zn P.settle.length;rw[<-a5] at l1;rw[<-a6] at d5;have d6:(bZ P.E).length=n1*1:=by simp[bZ,a5]
 have d7:(bZ P.settle).length=n2*1:=by simp[bZ,a6]
 have b7:bZ P.E≠[]:=by intro e;have:=congrArg List.length e;have h2:=HP.h.n2;simp[bZ] at this;rw[this] at h2;simp at h2
 have b8:bZ P.settle≠[]:=by intro e;have:=congrArg List.length e;have h2:=HP.h.n2;have h3:=HP.h.vI;simp[bZ] at this;rw[this] at h3;simp at h3;omega
 have fa:n1<=6:=by rw[a5];exact HP.h.n6
 have ff:n2<=6:=by rw[a6,HP.h.vI];exact HP.h.n6
 have a7:ma=none->mc=0:=fun e=>by obtain⟨b,o,h3,_⟩:=h2.m b7;rw[e] at h3;cases h3
 have a8:sa=none->sc=0:=fun e=>by obtain⟨b,o,h3,_⟩:=h2.s b8;rw[e] at h3;cases h3
 obtain⟨eF,eG,eI,eJ,eK,eL,d8,eM,eN⟩:=QG d6 d7 h2.m h2.s a5 a6 D1 a7 a8;clear D1 d6 d7 b7 b8 a5 a6 h2 a7 a8;refine oM (R:=Below I.heap.size) 10 [7,8,9] (by kernel_rfl) (by kernel_rfl) ?_;refine kF [0,1,3,4] 6 (fun _ _ _ _ _ h=>h) (by kernel_rfl) (dH.J _ _) ?_;refine Yr ?_;clear l1 d5;obtain⟨u0,cm⟩:=Zn I.drew;have bh:Bz I u0:=by rw[cm];exact aS (aa _ _)
 have bp:I.heap.size<=u0.heap.size:=bh.size;rw[<-cm];clear cm;refine dt [2] (dH.tr _) 5 (by kernel_rfl) ?_;refine dh (by rfl) (by rfl) (fun K hK=>?_) ?_
 ·go_simp
  refine(Cq ma n1 mc (bZ P.E) u0 eF.h (by omega) (eI.h.below bh) (jA _) eM.h).mono ?_;rintro e u1⟨A3,c3,rfl,r1, -,cn⟩;refine Yo hK (cn.mono bp) ?_;have bt:=bh.trans (cn.mono bp);have bE:I.heap.size<=u1.heap.size:=bt.size;refine kF [6] 4 (fun _ _ _ _ _ h=>h) (by kernel_rfl) (dH.J _ _) ?_;refine Yr ?_;refine dt [5] (dH.tr _) 3 (by kernel_rfl) ?_;refine dh (by rfl) (by rfl) (fun K hK=>?_) ?_
  ·go_simp
   refine(MM sa n2 sc (bZ P.settle) u1 eG.h (by omega) (eJ.h.below bt) (jA _) eN.h).mono ?_;rintro e u2⟨A7,c7,rfl,r2, -,bH⟩;refine Yo hK (bH.mono bE) ?_;have ct:=bt.trans (bH.mono bE);have G:=d8.h.below ct;have f1:Fz u2 g 1:=G.frozen 1;have eO:Fz u2 g 10:=G.frozen 10;have q1:Cz u2 g 1 (.slice ma P.E.length mc):=G.cell 1;have eP:Cz u2 g 10 (.slice sa P.settle.length sc):=G.cell 10;have fin:=vx (B:=w.heap.size) HP.h d8.h eK.h eL.h ct (ch (bP r1 bH) bp) (ch r2 bE) (bu EG.h.symm);have d9:=ao fin;clear fin r1 r2;refine dz 7 2 (by kernel_rfl) (by rfl) (by rfl) (fun K hK=>?_);go_simp;refine Yl hK ?_;refine dz 8 1 (by kernel_rfl) (by rfl) (by rfl) (fun K hK=>?_);go_simp;refine Yl hK ?_;refine dz 9 0 (by kernel_rfl) (by rfl) (by rfl) (fun K hK=>?_);go_simp;refine Yl hK ?_;refine mK (by kernel_rfl) ?_;obtain⟨w3,ea⟩:=Zn ((u2.setCell ⟨g,1,none⟩ (.slice A3 n1 c3)).setCell ⟨g,10,none⟩ (.slice A7 n2 c7));have F:=d9.h;rw[<-ea] at F⊢;obtain⟨⟨bQ,bR,bU,bV,D3,P3,eb,B3⟩,L3⟩:=F;have L2:Lv (fun q=>q=d) w1 I:=⟨O.h.os,O.h.tape,O.h.output,O.h.size,fun q hq hf=>O.h.block q hq hf (by simp)⟩;have cv:w.heap.size<w0.heap.size:=by have:=a0.h.lt;have:=EG.h;omega
   have G2:=cX.h.lv L2 (fun q hq e=>by have D:=cl.h q (by rcases hq with e|e|e|e|e|e;exact .inl e;exact .inr (.inl e);exact .inr (.inr (.inl e));exact .inr (.inr (.inr (.inl e)));exact .inr (.inr (.inr (.inr (.inl e))));exact .inr (.inr (.inr (.inr (.inr e)))));have e':q=d:=e;have:=ck.h;omega);have G3:=G2.lv L3 (fun q hq e=>by have D:=cl.h q (by rcases hq with e|e|e|e|e|e;exact .inl e;exact .inr (.inl e);exact .inr (.inr (.inl e));exact .inr (.inr (.inr (.inl e)));exact .inr (.inr (.inr (.inr (.inl e))));exact .inr (.inr (.inr (.inr (.inr e)))));have e':q=g:=e;have:=a0.h.lt;omega);have ed:g<w3.heap.size:=D3.lt;have z:=fun(i:Nat) u (hu:aR w3.drew u)=>Yb hu (show g<w3.drew.heap.size from ed) (D3.cell i);have z0:∀u,aR w3.drew u->Cz u g 0 (.string (str P.code)):=z 0;have z1:∀u,aR w3.drew u->Cz u g 1 (.slice bQ P.E.length bR):=z 1;have z2:∀u,aR w3.drew u->Cz u g 2 (Iz P.tick):=z 2;have z3:∀u,aR w3.drew u->Cz u g 3 (Iz P.low):=z 3;have z4:∀u,aR w3.drew u->Cz u g 4 (Iz P.high):=z 4;have z5:∀u,aR w3.drew u->Cz u g 5 (Iz P.wide):=z 5;have z6:∀u,aR w3.drew u->Cz u g 6 (Iz P.rule):=z 6;have z7:∀u,aR w3.drew u->Cz u g 7 (Iz P.top):=z 7;have z8:∀u,aR w3.drew u->Cz u g 8 (Iz P.least):=z 8;have z9:∀u,aR w3.drew u->Cz u g 9 (Iz P.part):=z 9;have eQ:∀u,aR w3.drew u->Cz u g 10 (.slice bU P.settle.length bV):=z 10;obtain⟨eR,ef,eS,fi,ba,ei,eT⟩:=yY G3 P3 eb B3 L3 L2 cv;clear z D3 P3 eb B3 L3 L2 G2 G3 cv ea d9 ed f1 eO q1 eP G ct bH bt cn bE bh bp
   go_upto_region 8 with(fail)
   refine Zg [5,6,7,9] [0,1,2,3,4,5,6,7,8,9,10] ?_;refine Yt ?_;clear z0 z1 z2 z3 z4 z5 z6 z7 z8 z9 eQ;refine Ym fun K hK=>?_;have bb:Bz w3 w3.drew:=aS (aa _ _);have G4:=eR.h.below bb;refine(yU _ _ _ _ _ _ _ _ w3.drew G4).mono ?_;rintro en v1⟨rfl,rfl⟩;refine Yo hK (aR.J _) ?_;refine Yt ?_;refine Ym fun K hK=>?_;refine(vy _ _ _ _ _ _ w3.drew G4.oO).mono ?_;rintro en v1⟨rfl,rfl⟩;refine Yo hK (aR.J _) ?_;refine Yt ?_;refine Ym fun K hK=>?_;refine(uM P bQ bR bU bV C.s (vJ.new P).m.S _ _ w3.drew (ef.h.below bb) G4.oO.st).mono ?_;rintro en w5⟨A8,c8,L8,rfl,ej,ek,b5⟩;refine Yo hK (b5) ?_;have G5:=G4.below b5;have P5:=(ef.h.below bb).below b5;obtain⟨eU,eV,el,b9,eW,eY⟩:=FW ej ek b5 bb G5 P5;clear ej ek b5 bb G4 G5 P5;refine Yt ?_;refine Ym fun K hK=>?_;refine Yo hK (au (aa _ _) _) ?_;refine Yt ?_;refine aT ?_;obtain⟨x,ex⟩:=Zn (⟨gg,gm,ob,C,Gs,R,d,j,r2,[].take (gU [] 0).stop,uN [] 0,0,bQ,bR,bU,bV,A8,c8,L8,w3.heap.size,w5.heap.size,0,none,0,0,[]⟩:N1);obtain⟨tag,et⟩:=Zn (fun q=>if q=d then 2 else if q<w0.heap.size then 0 else if q<w1.heap.size then 5 else if q<I.heap.size then (if q=j then 3 else 4) else if q<w3.heap.size then 7 else if q<w5.heap.size then 8 else if q=w5.heap.size then 1 else 0:Nat->Nat);obtain⟨ge,b0⟩:=Zn w5.heap.size;obtain⟨w6,ax⟩:=Zn (w5.alloc (.cells (x.cells P) 148));have fk:=a2.h.size;have fq:=ei.h.size;have eZ:=ba.h.size;have fx:=b9.h.size;have fz:=el.h.size;have e6:w3.drew.heap.size=w3.heap.size:=rfl;have cf:=ck.h;have cv:=eT.h;have fH:=eC.h;have e0:j<I.heap.size:=HJ.h.lt;have fT:g<w0.heap.size:=a0.h.lt;have ay:=Zw ax;have cF:Bz w3 w6:=dW (dW b9.h el.h) ay;have e3:g≠d:=by have:=EG.h;omega
   have D3:fj w3 d r2 ([].take (gU [] 0).stop) (uN [] 0):=bf.h.keep (ba.h.block d (bf.h.jC.1) (fun e=>e3 e.symm)) (fun q hq=>ba.h.block q (bf.h.jC.2 q hq).2 (fun e=>by
    rcases d4.h with D|D
    ·rw[D] at hq;cases hq
    ·have:=D q hq;have e':q=g:=e;omega)) eZ
   have J3:jD w3 j d 0:=HJ.h.keep (ba.h.block j e0 (fun e=>by have e':j=g:=e;omega));have tg:∀q,tag q=if q=d then 2 else if q<w0.heap.size then 0 else if q<w1.heap.size then 5 else if q<I.heap.size then (if q=j then 3 else 4) else if q<w3.heap.size then 7 else if q<w5.heap.size then 8 else if q=w5.heap.size then 1 else 0:=fun q=>by rw[et]
   clear et;have eo:kP w6 B ge P (vJ.new P) (kN P (Mk.new P).S) x tag:=by
    subst ex;refine⟨by rw[ax,b0];exact aE.new _ _ _,eY.h.below ay,D3.below cF,J3.below cF,eW.h.below ay,(Qp.new eU.h).keep ay.size (fun q _ h6=>ay.block q h6),eV.h,aM _ _ _ _,?_,?_,?_,?_,?_,?_,?_,?_,?_,?_⟩
    ·rw[tg,b0];repeat(first|rw[if_pos (by omega)]|rw[if_neg (by omega)])
    ·show tag d=2
     rw[tg];repeat(first|rw[if_pos (by omega)]|rw[if_neg (by omega)])
    ·show tag j=3
     rw[tg];repeat(first|rw[if_pos (by omega)]|rw[if_neg (by omega)])
    ·intro q hq
     have D:w1.heap.size<=q:=by
      rcases d4.h with D|D
      ·rw[show r2=some q from hq] at D;cases D
      ·exact D q hq
     have h6:q<I.heap.size:=(bf.h.jC.2 q hq).2;have h7:q≠j:=fun e=>eD.h (by rw[<-e];exact(show r2=some q from hq).symm);rw[tg];repeat(first|rw[if_pos (by omega)]|rw[if_neg (by omega)])
    ·intro q hq
     have D:=cl.h q (by rcases hq with e|e|e|e|e|e;exact .inl e;exact .inr (.inl e);exact .inr (.inr (.inl e));exact .inr (.inr (.inr (.inl e)));exact .inr (.inr (.inr (.inr (.inl e))));exact .inr (.inr (.inr (.inr (.inr e)))));have h6:=cX.h.lt q hq;rw[tg];repeat(first|rw[if_pos (by omega)]|rw[if_neg (by omega)])
    ·intro q hq;cases hq
    ·intro q hq
     have D:=eS.h q hq;rw[tg];repeat(first|rw[if_pos (by omega)]|rw[if_neg (by omega)])
    ·intro q D h6
     have f0:w3.heap.size<=q:=D;have f2:q<w5.heap.size:=h6;rw[tg];repeat(first|rw[if_pos (by omega)]|rw[if_neg (by omega)])
    ·intro q D _
     rw[tg] at D
     by_cases h6:q=d
     ·omega
     ·rw[if_neg h6] at D
      by_cases h7:q<w0.heap.size
      ·rw[if_pos h7] at D;omega
      ·omega
    ·have:=ay.size;omega
   have ep:Lv (fun q=>q=d) w w6:=by
    have La:Lv (fun q=>q=d\/q=g) w w3:=(((Lv.bL cQ.h).cV a2.h).trans ei.h fun q hq=> .inl (.inl hq)).trans ba.h fun q hq=> .inl (.inr hq);refine(La.cV cF).mono fun q hq=>?_;rcases hq with D|D
    ·exact .inl D
    ·right;rw[D,EG.h];exact af _
   have er:x.ln=0/\x.k=0/\x.dl=[]:=by rw[ex];exact⟨rfl,rfl,by simp⟩
   have eu:∀q,q<w.heap.size->q≠d->tag q=0:=fun q D h6=>by rw[tg,if_neg h6,if_pos (by omega)]
   rw[ex] at ax;obtain⟨e4,ew,cH,e5⟩:=mh eo ep er eu;clear eo ep er eu ex tg
   change w6=w5.alloc (.cells #[.string (str P.code), .slice bQ P.E.length bR,Iz P.tick,Iz P.low,Iz P.high,Iz P.wide,Iz P.rule,Iz P.top,Iz P.least,Iz P.part, .slice bU P.settle.length bV, Pz j, Pz gg, .slice A8 L8.length c8,Iz 0, .slice none 0 0] 148) at ax
   rw[<-ax,<-b0];clear ax b0;go_wp2_with fail
   go_loopw [50] (fun v wr=>v= Iz 0/\wr=w6) (fun _ _=>0)
   case atStart=>exact⟨rfl,rfl⟩
   case round=>
    obtain⟨rfl,rfl⟩:=hrel;go_wp2_with fail
    go_ret2
    exact⟨ge,x,tag,rfl,e4.h,cH.h.1,cH.h.2.1,cH.h.2.2,e5.h,ew.h⟩
  exact dJ
 exact dJ
end Go.Proofs.YtbaaheidifacaaaGreat
