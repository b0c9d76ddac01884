import Derived.Test.YtbaaheidifacaaaGreatQDiff1
import Derived.Test.YtbaaheidifacaaaGreatQCat
set_option linter.defProp false
set_option linter.unusedVariables false
set_option linter.unusedSimpArgs false
set_option maxRecDepth 100000
set_option maxHeartbeats 12800000
namespace Go.Proofs.YtbaaheidifacaaaGreat
variable {A:Option Addr} {B B0 c ge n q z:Nat} {F Gs':Nat→Prop} {G:vJ} {L:List Dx} {P:PD} {V:vZ} {cs:Array Value} {dl':List UInt8} {e:TypeId} {f tag:Nat→Nat} {r':Option Nat} {v:Value} {w w':World} {xs:List Value}
open Go.RowKit
structure N1 where
 gg:Nat
 g:Nat
 ob:Nat
 C:zt
 Gs:Nat→Prop
 R:Nat→Prop
 d:Nat
 j:Nat
 r:Option Nat
 dl:List UInt8
 ds:Nat
 k:Nat
 ma:Option Addr
 mc:Nat
 sa:Option Addr
 sc:Nat
 va:Option Addr
 vc:Nat
 L:List Dx
 vB:Nat
 vE:Nat
 seq:Int
 la:Option Addr
 ln:Nat
 lc:Nat
 Tw:List Value
variable {x:N1}
def N1.cells (x:N1) (P:PD):Array Value:=#[.string (str P.code), .slice x.ma P.E.length x.mc,Iz P.tick,Iz P.low,Iz P.high,Iz P.wide,Iz P.rule,Iz P.top,Iz P.least,Iz P.part, .slice x.sa P.settle.length x.sc,
 Pz x.j, Pz x.gg, .slice x.va x.L.length x.vc,Iz x.seq, .slice x.la x.ln x.lc]
def Qp (w:World) (B E:Nat) (A:Option Addr) (c:Nat) (L:List Dx):Prop:=E≤w.heap.size∧∃w0,w0.heap.size=E∧nt w0 B A c L∧∀q,B≤q→q<E→w.heap[q]?=w0.heap[q]?
theorem jU {w0:World} (h:w0.ownsRow B e z v n xs) (I:∀q,B<=q->q<w0.heap.size->w.heap[q]?=w0.heap[q]?):w.ownsRow B e z v n xs:=by
 refine⟨h.1,?_⟩;rcases h.2 with J|⟨g,cap,cur,hv,hg,D,rest⟩
 ·exact .inl J
 ·exact .inr ⟨g,cap,cur,hv,hg,(I g hg (aU.1 D).1).trans D,rest⟩
theorem Qp.view {E:Nat} (h:Qp w B E A c L):nt w B A c L:=by
 obtain⟨-,w0,rfl,hv,D⟩:=h;exact⟨jU hv.row D,fun e he=>⟨jU (hv.lv e he).1 D,jU (hv.lv e he).2 D⟩⟩
theorem Qp.keep {E:Nat} (h:Qp w B E A c L) (hs:w.heap.size<=w'.heap.size) (D:∀q,B<=q->q<E->w'.heap[q]?=w.heap[q]?):Qp w' B E A c L:=by
 obtain⟨O,w0,I,hv,J⟩:=h;exact⟨ae,w0,I,hv,fun q a b=>(D q a b).trans (J q a b)⟩
theorem Qp.new (h:nt w B A c L):Qp w B w.heap.size A c L:=⟨af _,w,rfl,h,fun _ _ _=>rfl⟩
structure kP (w:World) (B0 ge:Nat) (P:PD) (G:vJ) (V:vZ) (x:N1) (tag:Nat→Nat):Prop where
 D:aE w ge 148 (x.cells P)
 pd:iZ w P x.ma x.sa
 dk:fj w x.d x.r x.dl x.ds
 jr:jD w x.j x.d x.k
 gt:pX w x.Gs x.R x.gg x.g x.ob P G x.C
 vw:Qp w x.vB x.vE x.va x.vc x.L
 lk:ke x.L=V
 row:w.ownsRow B0 62 1 (.slice x.la x.ln x.lc) x.ln x.Tw
 t1:tag ge=1
 t2:tag x.d=2
 t3:tag x.j=3
 t4:∀q,x.r=some q→tag q=4
 t5:∀q,q=x.gg∨q=x.ob∨q=x.g∨q=x.C.ub∨x.Gs q∨x.R q→tag q=5
 t6:∀q,(Value.slice x.la x.ln x.lc).ownBlock=some q→tag q=6
 t7:∀q,qP x.ma q∨qP x.sa q→tag q=7
 t8:∀q,x.vB≤q→q<x.vE→tag q=8
 lo:∀q,1≤tag q→q<w.heap.size→B0≤q
 bs:B0≤w.heap.size
theorem kP.keep (h:kP w B0 ge P G V x tag) (T:List Nat) (J:Lv F w w') (hF:∀q,q<w.heap.size->F q->tag q∈T):
  (1∉T->aE w' ge 148 (x.cells P))/\(7∉T->iZ w' P x.ma x.sa)/\(2∉T->4∉T->fj w' x.d x.r x.dl x.ds)/\(3∉T->jD w' x.j x.d x.k)/\(5∉T->pX w' x.Gs x.R x.gg x.g x.ob P G x.C)/\
  (8∉T->Qp w' x.vB x.vE x.va x.vc x.L)/\(6∉T->w'.ownsRow B0 62 1 (.slice x.la x.ln x.lc) x.ln x.Tw):=by
 have kb:∀t,t∉T->∀q,q<w.heap.size->tag q=t->w'.heap[q]?=w.heap[q]?:=fun t I q hq O=>J.block q hq fun hf=>I (O▸hF q hq hf);refine⟨fun I=>h.D.block (kb 1 I _ h.D.lt h.t1),fun I=>h.pd.same (fun q hq ax=>kb 7 I q ax (h.t7 q hq)) J.size,fun I ay=>h.dk.keep (kb 2 I _ h.dk.jC.1 h.t2) (fun q hq=>kb 4 ay q (h.dk.jC.2 q hq).2 (h.t4 q hq)) J.size,fun I=>h.jr.keep (kb 3 I _ h.jr.lt h.t3),fun I=>?_,fun I=>?_,fun I=>?_⟩
 ·exact h.gt.lv (F:=F) J (fun q hq hf=>I (by rw[<-h.t5 q hq];exact hF q (h.gt.lt q hq) hf))
 ·exact h.vw.keep J.size fun q h1 h2=>kb 8 I q (cA h.vw.1) (h.t8 q h1 h2)
 ·refine⟨h.row.1,?_⟩
  rcases h.row.2 with h0|⟨g,cap,cur,hv,hg,hh,rest⟩
  ·exact .inl h0
  ·exact .inr ⟨g,cap,cur,hv,hg,(kb 6 I g (aU.1 hh).1 (h.t6 g (by rw[hv];rfl))).trans hh,rest⟩
def mL (tag:Nat→Nat) (n:Nat) (f:Nat→Nat):Nat→Nat:=fun q=>if q<n then tag q else f q
theorem fD (h:q<n):mL tag n f q=tag q:=if_pos h
theorem lG (h:n<=q):mL tag n f q=f q:=if_neg ae
theorem iZ.Xc {ma sa:Option Addr} (h:iZ w P ma sa) (q:Nat) (hq:qP ma q\/qP sa q):q<w.heap.size:=by
 have hr:=h.right;rcases hq with⟨o,I⟩|⟨o,I⟩
 ·obtain⟨b,J,D,O,_⟩:=h.m (by intro e;have e2:=congrArg List.length e;have:=hr.n2;simp only[bZ,br,lZ] at e2;omega)
  rw[I] at D;injection D with D;injection D with D;omega
 ·obtain⟨b,J,D,O,_⟩:=h.s (by intro e;have e2:=congrArg List.length e;have:=hr.n2;have:=hr.vI;simp only[bZ,br,lZ] at e2;omega)
  rw[I] at D;injection D with D;injection D with D;omega
theorem kP.tags (h:kP w B0 ge P G V x tag) (f:Nat->Nat):
  mL tag w.heap.size f ge=1/\mL tag w.heap.size f x.d=2/\mL tag w.heap.size f x.j=3/\(∀q,x.r=some q->mL tag w.heap.size f q=4)/\
  (∀q,q=x.gg\/q=x.ob\/q=x.g\/q=x.C.ub\/x.Gs q\/x.R q->mL tag w.heap.size f q=5)/\(∀q,(Value.slice x.la x.ln x.lc).ownBlock=some q->mL tag w.heap.size f q=6)/\
  (∀q,qP x.ma q\/qP x.sa q->mL tag w.heap.size f q=7)/\(∀q,x.vB<=q->q<x.vE->mL tag w.heap.size f q=8):=
 ⟨(fD h.D.lt).trans h.t1,(fD h.dk.jC.1).trans h.t2,(fD h.jr.lt).trans h.t3,fun q hq=>(fD (h.dk.jC.2 q hq).2).trans (h.t4 q hq),fun q hq=>(fD (h.gt.lt q hq)).trans (h.t5 q hq),
  fun q hq=>(fD (h.row.lt q hq).2).trans (h.t6 q hq),fun q hq=>(fD (h.pd.Xc q hq)).trans (h.t7 q hq),fun q I J=>(fD (cA h.vw.1)).trans (h.t8 q I J)⟩
theorem kP.Yj (h:kP w B0 ge P G V x tag) (f:Nat->Nat):∀q,1<=mL tag w.heap.size f q->q<w'.heap.size->B0<=q:=fun q D _=>by
 by_cases hq:q<w.heap.size
 ·rw[fD hq] at D;exact h.lo q D hq
 ·have:=h.bs;omega
theorem kP.below (h:kP w B0 ge P G V x tag) (D:Bz w w'):kP w' B0 ge P G V x (mL tag w.heap.size fun _=>0):=by
 obtain⟨a1,I,J,O,a5,a8,a6⟩:=h.keep (F:=fun _=>False) [] (Lv.bL D) (fun q _ hf=>hf.elim);obtain⟨b1,b2,b3,b4,b5,b6,b7,b8⟩:=h.tags fun _=>0;exact⟨a1 bT,I bT,J bT bT,O bT,a5 bT,a8 bT,h.lk,a6 bT,b1,b2,b3,b4,b5,b6,b7,b8,h.Yj _,aF h.bs D.size⟩
theorem kP.YY (h:kP w B0 ge P G V x tag) {k':Nat} (I:NY x.d x.j x.r w w') (D:fj w' x.d r' dl' x.ds) (hr:r'=x.r\/∀q,r'=some q->w.heap.size<=q) (J:jD w' x.j x.d k'):
  kP w' B0 ge P G V {x with r:=r',dl:=dl',k:=k'} (mL tag w.heap.size fun _=>4):=by
 have L:Lv (fun q=>q=x.d\/q=x.j\/some q=x.r) w w':=⟨I.os,I.tape,I.output,I.size,fun q hq hf=>I.block q hq (fun e=>hf (.inl e)) (fun e=>hf (.inr (.inl e))) (fun e=>hf (.inr (.inr e)))⟩;obtain⟨a1,O,a2,a3,a5,a8,a6⟩:=h.keep [2,3,4] L (by
  rintro q - (rfl|rfl|e)
  ·rw[h.t2];simp
  ·rw[h.t3];simp
  ·rw[h.t4 q e.symm];simp)
 obtain⟨b1,b2,b3,b4,b5,b6,b7,b8⟩:=h.tags fun _=>4;refine⟨a1 bT,O bT,D,J,a5 bT,a8 bT,h.lk,a6 bT,b1,b2,b3,fun q hq=>?_,b5,b6,b7,b8,h.Yj _,aF h.bs I.size⟩;rcases hr with e|e
 ·exact b4 q (e.symm.trans hq)
 ·exact lG (e q hq)
theorem kP.gate {I:vJ} (h:kP w B0 ge P G V x tag) (hg:pX w' Gs' x.R x.gg x.g x.ob P I x.C) (J:Lv (fun q=>q=x.ob\/q=x.C.ub\/x.Gs q) w w') (hs:∀q,Gs' q->x.Gs q\/qO w w' q):
  kP w' B0 ge P I V {x with Gs:=Gs'} (mL tag w.heap.size fun _=>5):=by
 obtain⟨a1,O,a2,a3,a5,a8,a6⟩:=h.keep [5] J (by
  rintro q - (rfl|rfl|e)
  ·rw[h.t5 _ (.inr (.inl rfl))];simp
  ·rw[h.t5 _ (.inr (.inr (.inr (.inl rfl))))];simp
  ·rw[h.t5 q (.inr (.inr (.inr (.inr (.inl e)))))];simp)
 obtain⟨b1,b2,b3,b4,D,b6,b7,b8⟩:=h.tags fun _=>5;refine⟨a1 bT,O bT,a2 bT bT,a3 bT,hg,a8 bT,h.lk,a6 bT,b1,b2,b3,b4,fun q hq=>?_,b6,b7,b8,h.Yj _,aF h.bs J.size⟩;rcases hq with e|e|e|e|e|e
 ·exact D q (.inl e)
 ·exact D q (.inr (.inl e))
 ·exact D q (.inr (.inr (.inl e)))
 ·exact D q (.inr (.inr (.inr (.inl e))))
 ·rcases hs q e with e|e
  ·exact D q (.inr (.inr (.inr (.inr (.inl e)))))
  ·exact lG e.1
 ·exact D q (.inr (.inr (.inr (.inr (.inr e)))))
theorem kP.seen {V':vZ} (h:kP w B0 ge P G V x tag) (hb:Bz w w') (hv:Qp w' w.heap.size w'.heap.size A c L) (hV:ke L=V') (hn:n=L.length):
  kP (w'.setCell ⟨ge,13,none⟩ (.slice A n c)) B0 ge P G V' {x with va:=A,vc:=c,L:=L,vB:=w.heap.size,vE:=w'.heap.size} (mL tag w.heap.size fun _=>8):=by
 subst hn;have L2:Lv (fun q=>q=ge) w (w'.setCell ⟨ge,13,none⟩ (.slice A L.length c)):=(Lv.bL (F:=fun q=>q=ge) hb).setCell (p:=⟨ge,13,none⟩) rfl _;obtain⟨a1,a7,a2,a3,a5,a8,a6⟩:=h.keep [1] L2 (by rintro q - rfl;rw[h.t1];simp);obtain⟨b1,b2,b3,b4,b5,b6,b7,b8⟩:=h.tags fun _=>8;have I:(w'.setCell ⟨ge,13,none⟩ (.slice A L.length c)).heap.size=w'.heap.size:=lQ _ _ _;have ax:=h.D.lt;refine⟨(h.D.below hb).set 13 _,a7 bT,a2 bT bT,a3 bT,a5 bT,?_,hV,a6 bT,b1,b2,b3,b4,b5,b6,b7,fun q J O=>lG J,fun q J O=>h.Yj (w':=w') _ q J (I▸O),aF h.bs L2.size⟩;exact hv.keep (bu I.symm) fun q J O=>heap_setCell_other _ _ _ _ (by show q≠ge;omega)
theorem kP.YZ (h:kP w B0 ge P G V x tag) (sq:Int):
  kP (w.setCell ⟨ge,14,none⟩ (Iz sq)) B0 ge P G V {x with seq:=sq} tag:=by
 have J:Lv (fun q=>q=ge) w (w.setCell ⟨ge,14,none⟩ (Iz sq)):=(Lv.refl (fun q=>q=ge) w).setCell (p:=⟨ge,14,none⟩) rfl _;obtain⟨a1,O,a2,a3,a5,a8,a6⟩:=h.keep [1] J (by rintro q - rfl;rw[h.t1];simp);have I:(w.setCell ⟨ge,14,none⟩ (Iz sq)).heap.size=w.heap.size:=lQ _ _ _;exact⟨h.D.set 14 _,O bT,a2 bT bT,a3 bT,a5 bT,a8 bT,h.lk,a6 bT,h.t1,h.t2,h.t3,h.t4,h.t5,h.t6,h.t7,h.t8,fun q h1 h2=>h.lo q h1 (I▸h2),aF h.bs J.size⟩
theorem kP.log (h:kP w B0 ge P G V x tag) (own:w'.ownsRow B0 62 1 (.slice A n c) n xs) (hg:w.grownBy w' (Value.slice x.la x.ln x.lc).ownBlock)
  (hl:(Value.slice A n c).ownBlock=(Value.slice x.la x.ln x.lc).ownBlock\/∀q,(Value.slice A n c).ownBlock=some q->w.heap.size<=q):
  kP (w'.setCell ⟨ge,15,none⟩ (.slice A n c)) B0 ge P G V {x with la:=A,ln:=n,lc:=c,Tw:=xs} (mL tag w.heap.size fun _=>6):=by
 have ax:=h.D.lt;have O:Lv (fun q=>(Value.slice x.la x.ln x.lc).ownBlock=some q) w w':=Lv.dy hg fun q hq=> .inl hq;have L2:Lv (fun q=>(Value.slice x.la x.ln x.lc).ownBlock=some q\/q=ge) w (w'.setCell ⟨ge,15,none⟩ (.slice A n c)):=(O.mono fun q hq=> .inl (.inl hq)).setCell (.inr rfl) _;obtain⟨a1,a7,a2,a3,a5,a8,a6⟩:=h.keep [1,6] L2 (by
  rintro q - (e|rfl)
  ·rw[h.t6 q e];simp
  ·rw[h.t1];simp)
 obtain⟨c1, -⟩:=h.keep [6] O (by intro q _ e;rw[h.t6 q e];simp);obtain⟨b1,b2,b3,b4,b5,b6,b7,b8⟩:=h.tags fun _=>6;have J:(w'.setCell ⟨ge,15,none⟩ (.slice A n c)).heap.size=w'.heap.size:=lQ _ _ _;have I:∀q,(Value.slice A n c).ownBlock=some q->mL tag w.heap.size (fun _=>6) q=6:=fun q hq=>by
  rcases hl with e|e
  ·exact b6 q (e.symm.trans hq)
  ·exact lG (e q hq)
 refine⟨(c1 bT).set 15 _,a7 bT,a2 bT bT,a3 bT,a5 bT,a8 bT,h.lk,?_,b1,b2,b3,b4,b5,I,b7,b8,fun q h1 h2=>h.Yj (w':=w') _ q h1 (J▸h2),aF h.bs L2.size⟩;refine⟨own.1,?_⟩;rcases own.2 with h0|⟨g,cap,cur,hv,hg,hh,rest⟩
 ·exact .inl h0
 ·refine .inr ⟨g,cap,cur,hv,hg,?_,rest⟩
  rw[heap_setCell_other]
  ·exact hh
  ·intro e
   have e':g=ge:=e;have:=I g (by rw[hv];rfl);rw[e',b1] at this
   cases this
structure Yk (P:PD) (V:vZ):Prop where
 n:V.length=P.count
 s:∀e∈V,e.1.lv.length≤1000∧e.2.lv.length≤1000
theorem Yk.Y9 (h:Yk P V) (D:ke L=V) (hv:nt w B A c L) (hn:n=P.count):Qm w B A n c L:=by
 subst D;refine⟨by rw[hn,<-h.n];unfold ke;simp,hv,fun e he=>?_⟩;exact h.s (e.1.sd,e.2.sd) (aV.2 ⟨e,he,rfl⟩)
theorem Ha:∀(l:List iQ),(∀r∈l,r.2≠[])->l.length<=(gY l).length
 |[],_=>aB _
 |r::l,h=>by
  have D:=Ha l fun x hx=>h x (by simp[hx]);have I:0<r.2.length:=iu.2 (h r bT);unfold gY at*;rw[bj,aC,bI];omega
theorem EE.Vc {M:BM} (h:EE M) (k:Nat):(M.side k).length<=250:=by
 have hc:=h.cnt;unfold BM.I at hc;rw[aC] at hc;have D:=Ha _ h.XL;have J:=Ha _ h.Ol;unfold BM.side
 split<;>omega
theorem look_ok {G R:Nat->Prop} {s:Nat} {S:Sm} (h:dR w G R s P S):Yk P (kN P S):=by
 refine⟨by unfold kN;simp,fun e he=>?_⟩;unfold kN at he;obtain⟨x,hx,rfl⟩:=aV.1 he;have key:∀k,(kK P S x k).lv.length<=1000:=fun k=>by
  unfold kK;simp only
  split
  ·rename_i M D
   rw[br];have:=(h.xX D).Vc k;omega
  ·simp
 exact⟨key 0,key 1⟩
theorem Yn:kA Tryz.prog 141 62 (.slice none 0 0) 1 24:=⟨Xa.under,Xa.info,rfl,ae,ae⟩
theorem kP.off (h:kP w B0 ge P G V x tag) {gr i:Nat} (hg:tag gr=0) (u:Value):kP (w.setCell ⟨gr,i,none⟩ u) B0 ge P G V x tag:=by
 have I:Lv (fun q=>q=gr) w (w.setCell ⟨gr,i,none⟩ u):=(Lv.refl (fun q=>q=gr) w).setCell (p:=⟨gr,i,none⟩) rfl _;obtain⟨a1,J,O,a3,a5,a8,a6⟩:=h.keep [0] I (by rintro q - rfl;rw[hg];simp);have D:(w.setCell ⟨gr,i,none⟩ u).heap.size=w.heap.size:=lQ _ _ _;exact⟨a1 bT,J bT,O bT bT,a3 bT,a5 bT,a8 bT,h.lk,a6 bT,h.t1,h.t2,h.t3,h.t4,h.t5,h.t6,h.t7,h.t8,fun q h1 h2=>h.lo q h1 (D▸h2),aF h.bs I.size⟩
theorem yU (gg g ob:Nat) (P:PD) (G:vJ) (Gs R:Nat->Prop) (C:zt) (w:World) (h:pX w Gs R gg g ob P G C):
  Wz 77 #[Pz gg] w fun e w'=>e= .returned (Pz g)/\w=w':=by
 have I:=h.D.cell;clear h
 go_enter Tryz.func77,Tryz.ntmps77
 go_wp2_with fail;go_ret;exact⟨rfl,rfl⟩
structure Seen (w0 wx:World) (gv:Nat) (P:PD) (S:Sm) (A:Option Addr) (n c:Nat) (L:List Dx):Prop where
 D:aE wx gv 71 #[.slice A n c]
 vw:nt wx w0.heap.size A c L
 n:n=L.length
 eq:ke L=kN P S
 jm:Bz w0 wx
 lo:w0.heap.size≤gv
theorem nt.keep (h:nt w B A c L) (D:∀q,B<=q->q<w.heap.size->w'.heap[q]?=w.heap[q]?):nt w' B A c L:=
 ⟨jU h.row D,fun e he=>⟨jU (h.lv e he).1 D,jU (h.lv e he).2 D⟩⟩
theorem nt.base {I:Nat} (h:nt w B A c L) (D:I<=B):nt w I A c L:=
 ⟨ch h.row D,fun e he=>⟨ch (h.lv e he).1 D,ch (h.lv e he).2 D⟩⟩
theorem Vd (B0 ge:Nat) (P:PD) (G:vJ) (V:vZ) (x:N1) (tag:Nat->Nat) (s:Nat) (A:Option Addr) (n c:Nat) (b:List UInt8) (w:World) (h:kP w B0 ge P G V x tag) (hV:Yk P V) (hs:s<8) (hn:b.length=n) (hl:n<=255) (hc:n<=c) (j4:c<=9223372036854775807) (hA:Cells w A (ij b)) (f6:∀q,qP A q->q<w.heap.size->tag q=0)
  (f7:G.m.un<1000000) (f8:G.on+3+1503*(gw s b).1.aw.toNat<1000000) (na:x.ln<=1000):
  Wz 80 #[Pz ge,Iz (s:Int), .slice A n c] w fun e w'=> ∃A1 c1 n2 A2 c2 x' ed,e= .returned (.agg #[.slice A1 (yb P G s b).2.length c1, .slice A2 n2 c2])/\n2=wj V (kN P (yb P G s b).1.m.S)/\
   sO 0 w' A1 c1 (yb P G s b).2/\kP w' B0 ge P (yb P G s b).1 (kN P (yb P G s b).1.m.S) x' ed/\(∀q,q<w.heap.size->ed q=tag q)/\Lv (fun q=>1<=tag q) w w'/\x'.ln=x.ln+1/\x'.k=x.k/\x'.dl=x.dl:=by
 have j5:Cz w ge 15 (.slice x.la x.ln x.lc):=h.D.cell 15;obtain⟨G',eG⟩:=Zn ((yb P G (s:Int) b).1);obtain⟨O,eO⟩:=Zn ((yb P G (s:Int) b).2);rw[<-eG,<-eO];obtain⟨j6,j7,j8⟩:=fY f6 eG eO;clear f6 eG eO;obtain⟨H,HV,HN,HA,j9,ka,HS⟩:=yY h hV hn hA f8 f7 hs;clear h hV hn hA f8 f7 hs
 go_enter Tryz.func80,Tryz.ntmps80
 go_upto_region 1 with(fail)
 obtain⟨w0,cS⟩:=Zn (w.alloc (.cells #[.slice none 0 0, .slice none 0 0] 104));obtain⟨gr,b6⟩:=Zn w.heap.size;have eL:=Zw cS;have DR:=Zq cS b6;rw[<-cS,<-b6];have H0:=H.h.below eL;obtain⟨ay,a6⟩:=Zn (mL tag w.heap.size fun _=>0);rw[<-a6] at H0;have f9:ay gr=0:=a6▸b6▸lG (af _);have ef:=H0.D.lt;have gb:Cz w0 ge 15 (.slice x.la x.ln x.lc):=H0.D.cell 15;obtain⟨Fs,eM⟩:=Zn (fun j=>j=ge:Nat->Prop);have m0:Fs ge:=by rw[eM]
 have l0:∀u,aI Fs w0.drew u->Cz u ge 15 (.slice x.la x.ln x.lc):=fun u hu=>(hu.cell m0).trans gb;obtain⟨bE,bH,eP,cT,gi,b7,kf,b9⟩:=Dw eM H0 DR eL a6 f9 b6 ef;clear j5 cS eM H0 DR eL a6 f9 ef gb m0 b6;refine bx (R:=aI Fs) 15 [7,9,10,11,12,15] [0,1,2,3,4,5,6,8,7,9,10,11,12,13,14,15] (by kernel_rfl) (aI.tr _) (aI.J _) (by kernel_rfl) (fun _ _ _ _ _ h=>h) ?_;refine Yt ?_;clear l0;refine Ym fun K hK=>?_;have gj:IntKind.u8.wrap (s:Int)=(s:Int):=by have:=HS.h;rw[IntKind.wrap_u8];omega
 rw[gj];obtain⟨w1,cX⟩:=Zn ((w0.alloc (.cells #[.int .u8 (s:Int)] 5)).drew);have B1:Bz w0 w1:=cX▸aS (au (aa _ _) _);have D1:aE w1 w0.heap.size 5 #[.int .u8 (s:Int)]:=cX▸(aE.new _ _ _).drew;have gp:aI Fs w0.drew w1:=fun j hj=>by rw[bE.h] at hj;subst hj;exact B1.block _ b9.h
 rw[<-cX];obtain⟨eQ,gx⟩:=dF B1 D1;clear cX B1 D1 gj;refine Yo hK (gp) ?_;clear gp;refine Yt ?_;refine Ym fun K hK=>?_;obtain⟨w2,c0⟩:=Zn (w1.alloc (.cells #[.slice (some ⟨w0.heap.size,0,none⟩) 1 1, .slice A n c] 62));have B2:=Zw c0;have D2:aE w2 w1.heap.size 62 #[.slice (some ⟨w0.heap.size,0,none⟩) 1 1, .slice A n c]:=c0▸aE.new _ _ _;have gy:aI Fs w1 w2:=fun j hj=>by rw[bE.h] at hj;subst hj;exact B2.block _ (aA b9.h eQ.h.size)
 rw[<-c0];obtain⟨dc,dp,cd⟩:=fY (dW eQ.h B2) D2 (gx.h.below B2);clear c0 B2 D2 eQ gx;refine Yo hK (gy) ?_;clear gy;refine Yt ?_;refine Ym fun K hK=>?_;have gA:ij [UInt8.ofNat s]=[.int .u8 (s:Int)]:=by
  have:=HS.h;simp[ij];omega
 have gG:Cells w2 (some ⟨w0.heap.size,0,none⟩) (ij [UInt8.ofNat s]):=by
  rw[gA];intro _;refine⟨_,_,rfl,cd.h.lt,fun k v hv=>?_⟩;rw[cd.h.cell];simpa using hv
 have gI:Cells w2 A (ij b):=HA.h.below (dW cT.h dc.h);obtain⟨gO,gP⟩:=dF gG gI;clear gG gI gA;refine(Dn w1.heap.size _ 1 1 [UInt8.ofNat s] A n c b w2 dp.h.lt (dp.h.cell 0) (dp.h.cell 1) rfl HN.h ae ae ae gO.h gP.h).mono ?_;rintro e w3⟨A3,c3,rfl,eg,ki,gR,kk,b3⟩;have gT:([UInt8.ofNat s]++b).length=n+1:=by rw[aC,HN.h];simp;omega
 rw[gT] at eg gR⊢;have g3:aI Fs w2 w3:=fun j hj=>by rw[bE.h] at hj;subst hj;exact b3.block _ (aA b9.h dc.h.size)
 have eR:=ao (dW dc.h b3);clear eg ki gR kk b3 gO gP dp cd dc gT;refine Yo hK (g3) ?_;clear g3;refine Yt ?_;refine Ym fun K hK=>?_;obtain⟨w4,dS⟩:=Zn (w3.alloc (.cells #[.slice A3 (n+1) c3] 62));have B4:=Zw dS;have D4:aE w4 w3.heap.size 62 #[.slice A3 (n+1) c3]:=dS▸aE.new _ _ _;have g4:aI Fs w3 w4:=fun j hj=>by rw[bE.h] at hj;subst hj;exact B4.block _ (aA b9.h eR.h.size)
 rw[<-dS];obtain⟨dT,eS⟩:=dF (dW eR.h B4) D4;clear dS B4 D4 eR;refine Yo hK (g4) ?_;clear g4;refine Yt ?_;have H4:=bH.h.below dT.h;have g6:B0<=w4.heap.size:=H4.bs;have ei:=H4.row;have C4:Cells w4 (some ⟨w3.heap.size,0,none⟩) [.slice A3 (n+1) c3]:=by
  intro _;refine⟨_,_,rfl,eS.h.lt,fun k v hv=>?_⟩;rw[eS.h.cell];simpa using hv
 refine Zm fun K hK=>?_;refine fZ Yn ei (A:=some ⟨w3.heap.size,0,none⟩) (m:=1) (c:=1) (news:=[.slice A3 (n+1) c3]) _ _ rfl rfl rfl rfl bT C4 (by intro u hu;simp at hu;subst hu;rfl) ae g6 (x.ln+1) _ rfl rfl ?_;intro A5 c5 w5 bQ;have g7:(Value.slice x.la x.ln x.lc).ownBlock≠some ge:=fun e=>by
  have h6:=H4.t6 ge e;rw[H4.t1] at h6
  cases h6
 have eT:w5.heap[ge]?=w4.heap[ge]?:=bQ.grown.block ge H4.D.lt fun e=>g7 e.symm;have D5:aE w5 ge 148 (x.cells P):=H4.D.block eT;have k5:Cz w5 ge 15 (.slice x.la x.ln x.lc):=D5.cell 15;have f5:Fz w5 ge 15:=D5.frozen 15;have g8:aI Fs w4 w5:=fun j hj=>by rw[bE.h] at hj;subst hj;exact eT
 have ej:=H4.log bQ.own bQ.grown (by rcases bQ.jV with e|e;exact .inl e;exact .inr fun q hq=>by rw[e] at hq;injection hq with hq;omega);obtain⟨g9,hh,kl⟩:=fY ej bQ H4;clear H4 g6 ei C4 g7 eT D5 bQ ej eS;refine Yo hK (g8) ?_;clear g8;refine Yt ?_;refine Zl fun K hK=>?_;go_simp;refine Yl hK ?_;refine aT ?_;obtain⟨w6,d2⟩:=Zn (w5.setCell ⟨ge,15,none⟩ (.slice A5 (x.ln+1) c5));rw[<-d2];have H6:=g9.h;rw[<-d2] at H6;have L6:Lv (fun q=>1<=ay q) w0 w6:=by
  rw[d2];refine Lv.setCell (p:=⟨ge,15,none⟩) ((Lv.bL dT.h).trans (Lv.dy hh.h.grown fun q hq=> .inl hq) fun q hq=>?_) ?_ _
  ·exact .inl (by rw[bH.h.t6 q hq];omega)
  ·show 1<=ay ge
   rw[bH.h.t1];omega
 have D6:aE w6 gr 104 #[.slice none 0 0, .slice none 0 0]:=eP.h.lv L6 (by rw[b7.h];omega);obtain⟨x6,eU⟩:=Zn ({x with la:=A5,ln:=x.ln+1,lc:=c5,Tw:=x.Tw++[.slice A3 (n+1) c3]}:N1);obtain⟨ek,eV⟩:=Zn (mL (mL ay w0.heap.size fun _=>0) w4.heap.size fun _=>6);rw[<-eU,<-eV] at H6;have hk:=dT.h.size;have ho:∀q,q<w0.heap.size->ek q=ay q:=fun q hq=>by rw[eV,fD ae,fD hq]
 have ht:x6.ln=x.ln+1/\x6.k=x.k/\x6.dl=x.dl:=eU▸⟨rfl,rfl,rfl⟩;have kn:ke x6.L=V:=H6.lk;have kr:Cz w6 ge 12 (Pz x6.gg):=H6.D.cell 12;have hy:Cells w6 A (ij b):=L6.cells (HA.h.below cT.h) fun b0 o e h1=>by
  have eW:1<=ay b0:=h1;rw[gi.h] at eW
  by_cases hb:b0<w.heap.size
  ·rw[fD hb,j6.h b0 ⟨o,e⟩ hb] at eW;omega
  ·rw[lG ae] at eW;omega
 obtain⟨ck,eY,hB,eZ,hC,ks⟩:=FW H6 L6 D6 ho ht hy;clear H6 L6 D6 eU eV hk ho ht kn hy d2 g9 hh kl dT k5 f5 bE b9;have hG:=UK x6.Gs x6.R x6.gg x6.g x6.ob P G x6.C (s:Int) A n c b w6 ck.h.gt HN.h ae hc j4 ks.h ⟨cA HS.h,cA HS.h⟩ ka.h j9.h;have hD:=ao hG;clear hG;go_wp2_with fail;refine hD.h.mono ?_;rintro e w7⟨A7,c7,Gs',rfl,cl,fa,d3,el,eo⟩;rw[<-j8.h] at cl eo⊢;rw[<-j7.h] at fa;have H7:=ck.h.gate fa d3 el;have L7:Lv (fun q=>1<=ay q) w0 w7:=eY.h.trans d3 fun q hq=>by
  by_cases h0:q<w0.heap.size
  ·left
   rw[<-eZ.h q h0,ck.h.t5 q (by rcases hq with e|e|e;exact .inr (.inl e);exact .inr (.inr (.inr (.inl e)));exact .inr (.inr (.inr (.inr (.inl e)))))];omega
  ·exact .inr ae
 have ep:ge<w6.heap.size:=ck.h.D.lt;have er:gr<w6.heap.size:=hB.h.lt;obtain⟨x7,ff⟩:=Zn ({x6 with Gs:=Gs'}:N1);obtain⟨et,fi⟩:=Zn (mL ek w6.heap.size fun _=>5);rw[<-ff,<-fi] at H7;have hE:∀q,q<w0.heap.size->et q=ay q:=fun q hq=>by rw[fi,fD (cA eY.h.size),eZ.h q hq]
 have hH:x7.ln=x.ln+1/\x7.k=x.k/\x7.dl=x.dl:=ff▸hC.h;have D7:aE w7 gr 104 #[.slice none 0 0, .slice none 0 0]:=eP.h.lv L7 (by rw[b7.h];omega);obtain⟨m7,d4⟩:=Zn O.length;have cm:w7.ownsRow w6.heap.size 65 9 (.slice A7 m7 c7) m7 (qJ O):=d4▸cl;rw[<-d4];obtain⟨bR,hI,hJ,kx,k3,hL,k6,hM,hN,m6⟩:=QM H7 L7 cm hE hH D7 d4 ep er d3;clear H7 L7 cl cm hE hH D7 d4 ep er fa d3 el eo ff fi hD ck eY hB eZ hC kr
 go_upto_region 3 with(fail)
 obtain⟨w8,d5⟩:=Zn (w7.alloc (.cells #[.slice A7 m7 c7, .slice none 0 0] 104));obtain⟨gq,d6⟩:=Zn w7.heap.size;have B8:=Zw d5;have D8:=Zq d5 d6;rw[<-d5,<-d6];have H8:=bR.h.below B8;have a0:=H8.D.lt;have e0:∀u,Below w8.heap.size w8.drew u->Cz u ge 0 (.string (str P.code)):=fun u hu=>Yb hu a0 (H8.D.cell 0);have e1:∀u,Below w8.heap.size w8.drew u->Cz u ge 1 (.slice x7.ma P.E.length x7.mc):=fun u hu=>Yb hu a0 (H8.D.cell 1);have e2:∀u,Below w8.heap.size w8.drew u->Cz u ge 2 (Iz P.tick):=fun u hu=>Yb hu a0 (H8.D.cell 2);have e3:∀u,Below w8.heap.size w8.drew u->Cz u ge 3 (Iz P.low):=fun u hu=>Yb hu a0 (H8.D.cell 3);have e4:∀u,Below w8.heap.size w8.drew u->Cz u ge 4 (Iz P.high):=fun u hu=>Yb hu a0 (H8.D.cell 4);have e5:∀u,Below w8.heap.size w8.drew u->Cz u ge 5 (Iz P.wide):=fun u hu=>Yb hu a0 (H8.D.cell 5);have e6:∀u,Below w8.heap.size w8.drew u->Cz u ge 6 (Iz P.rule):=fun u hu=>Yb hu a0 (H8.D.cell 6);have e7:∀u,Below w8.heap.size w8.drew u->Cz u ge 7 (Iz P.top):=fun u hu=>Yb hu a0 (H8.D.cell 7);have e8:∀u,Below w8.heap.size w8.drew u->Cz u ge 8 (Iz P.least):=fun u hu=>Yb hu a0 (H8.D.cell 8);have e9:∀u,Below w8.heap.size w8.drew u->Cz u ge 9 (Iz P.part):=fun u hu=>Yb hu a0 (H8.D.cell 9);have hO:∀u,Below w8.heap.size w8.drew u->Cz u ge 10 (.slice x7.sa P.settle.length x7.sc):=fun u hu=>Yb hu a0 (H8.D.cell 10);have hP:∀u,Below w8.heap.size w8.drew u->Cz u ge 12 (Pz x7.gg):=fun u hu=>Yb hu a0 (H8.D.cell 12);obtain⟨a3,fk,fq,fx⟩:=mh H8 B8 D8 d6;clear d5 d6 B8 D8 H8 a0
 go_cut [8] (fun v8 wx=> ∃gv A8 n8 c8 L8,v8= Pz gv/\Hid (Seen w8 wx gv P G'.m.S A8 n8 c8 L8))
 case first=>
  refine Zy w8.heap.size 13 ?_;refine Zr [0,1,2,3,4,5,6,7] 5 ?_;refine Yr ?_;clear e0 e1 e2 e3 e4 e5 e6 e7 e8 e9 hO hP;obtain⟨wd,fz⟩:=Zn w8.drew;have I:Bz w8 wd:=fz▸aS (aa _ _);have nb:w8.heap.size<=wd.heap.size:=I.size;rw[<-fz];clear fz;refine Zf [8,11] 4 ?_;refine Zo (fun K hK=>?_) ?_
  ·go_simp
   refine(yU _ _ _ _ _ _ _ _ wd (a3.h.gt.below I)).mono ?_;rintro en u1⟨rfl,rfl⟩;refine Yo hK (aa _ _) ?_;refine Zf [9,11] 3 ?_;refine Zo (fun K hK=>?_) ?_
   ·go_simp
    refine(vy _ _ _ _ _ _ wd (a3.h.gt.below I).oO).mono ?_;rintro en u2⟨rfl,rfl⟩;refine Yo hK (aa _ _) ?_;refine Zf [10,11] 2 ?_;refine Zo (fun K hK=>?_) ?_
    ·go_simp
     refine(uM P x7.ma x7.mc x7.sa x7.sc x7.C.s G'.m.S _ _ wd (a3.h.pd.below I) ((a3.h.gt.below I).oO.st)).mono ?_;rintro en u3⟨A8,c8,L8,rfl,a8,bb,b8⟩;refine Yo hK (b8.mono I.size) ?_;have d7:Bz w8 u3:=I.trans (b8.mono I.size);have fH:wd.heap.size<=u3.heap.size:=b8.size;refine Zf [11] 1 ?_;refine Zo (fun K hK=>?_) ?_
     ·go_simp
      refine Yo hK ((au (aa _ _) _).mono d7.size) ?_;obtain⟨u4,eu⟩:=Zn (u3.alloc (.cells #[.slice none 0 0] 71));obtain⟨gv,ax⟩:=Zn u3.heap.size;have Da:=Zq eu ax;have ba:=Zw eu;have a5:w8.heap.size<=gv:=ax▸d7.size;have k7:Bz w8 u4:=d7.trans (ba.mono d7.size);rw[<-eu,<-ax];have cn:u3.heap.size<=gv:=ax▸af _;clear eu ax;have z0:Cz u4 gv 0 (.slice none 0 0):=Da.cell 0;have y0:Fz u4 gv 0:=Da.frozen 0;refine Zf [12] 0 ?_;refine Zo (fun K hK=>?_) ?_
      ·go_simp
       have hb:Below w8.heap.size u4 (u4.setCell ⟨gv,0,none⟩ (.slice A8 L8.length c8)):=(aa _ _).setCell (p:=⟨gv,0,none⟩) a5 _;refine Yo hK (hb) ?_;refine Ze ?_;go_wp2_with fail;go_meet;exact⟨gv,A8,L8.length,c8,L8,rfl,ao ⟨Da.set 0 _,(a8.keep fun q h1 h2=>(ba.setCell (p:=⟨gv,0,none⟩) (by show _<=gv;omega) _).block q h2).base I.size,rfl,bb,k7.trans hb,a5⟩⟩
      exact aQ
     exact aQ
    refine Zo (fun K hK=>?_) ?_
    ·go_simp
     refine Yo hK ((au (aa _ _) _).mono I.size) ?_;obtain⟨u5,eu⟩:=Zn (wd.alloc (.cells #[.slice none 0 0] 71));obtain⟨gv,ax⟩:=Zn wd.heap.size;have Da:=Zq eu ax;have ba:=Zw eu;have a5:w8.heap.size<=gv:=ax▸I.size;have bU:Bz w8 u5:=I.trans (ba.mono I.size);rw[<-eu,<-ax];have cn:wd.heap.size<=gv:=ax▸af _;clear eu ax;refine Zf [10] 1 ?_;refine Zo (fun K hK=>?_) ?_
     ·go_simp
      refine(uM P x7.ma x7.mc x7.sa x7.sc x7.C.s G'.m.S _ _ u5 (a3.h.pd.below bU) ((a3.h.gt.below bU).oO.st)).mono ?_;rintro en u6⟨A8,c8,L8,rfl,a8,bb,b8⟩;refine Yo hK (b8.mono bU.size) ?_;have k8:Bz w8 u6:=bU.trans (b8.mono bU.size);have ew:gv<u5.heap.size:=Da.lt;replace Da:=Da.below b8;have fH:u5.heap.size<=u6.heap.size:=b8.size;have z0:Cz u6 gv 0 (.slice none 0 0):=Da.cell 0;have y0:Fz u6 gv 0:=Da.frozen 0;refine Zf [12] 0 ?_;refine Zo (fun K hK=>?_) ?_
      ·go_simp
       have hb:Below w8.heap.size u6 (u6.setCell ⟨gv,0,none⟩ (.slice A8 L8.length c8)):=(aa _ _).setCell (p:=⟨gv,0,none⟩) a5 _;refine Yo hK (hb) ?_;refine Ze ?_;go_wp2_with fail;go_meet;exact⟨gv,A8,L8.length,c8,L8,rfl,ao ⟨Da.set 0 _,(a8.keep fun q h1 h2=>heap_setCell_other _ _ _ _ (by show q≠gv;omega)).base bU.size,rfl,bb,k8.trans hb,a5⟩⟩
      exact aQ
     exact aQ
    exact aQ
   refine Zo (fun K hK=>?_) ?_
   ·go_simp
    refine Yo hK ((au (aa _ _) _).mono I.size) ?_;obtain⟨u7,eu⟩:=Zn (wd.alloc (.cells #[.slice none 0 0] 71));obtain⟨gv,ax⟩:=Zn wd.heap.size;have Da:=Zq eu ax;have ba:=Zw eu;have a5:w8.heap.size<=gv:=ax▸I.size;have bc:Bz w8 u7:=I.trans (ba.mono I.size);rw[<-eu,<-ax];have cn:wd.heap.size<=gv:=ax▸af _;clear eu ax;refine Zf [9] 2 ?_;refine Zo (fun K hK=>?_) ?_
    ·go_simp
     refine(vy _ _ _ _ _ _ u7 (a3.h.gt.below bc).oO).mono ?_;rintro en u8⟨rfl,rfl⟩;refine Yo hK (aa _ _) ?_;refine Zf [10] 1 ?_;refine Zo (fun K hK=>?_) ?_
     ·go_simp
      refine(uM P x7.ma x7.mc x7.sa x7.sc x7.C.s G'.m.S _ _ u7 (a3.h.pd.below bc) ((a3.h.gt.below bc).oO.st)).mono ?_;rintro en u9⟨A8,c8,L8,rfl,a8,bb,b8⟩;refine Yo hK (b8.mono bc.size) ?_;have k9:Bz w8 u9:=bc.trans (b8.mono bc.size);have ew:gv<u7.heap.size:=Da.lt;replace Da:=Da.below b8;have fH:u7.heap.size<=u9.heap.size:=b8.size;have z0:Cz u9 gv 0 (.slice none 0 0):=Da.cell 0;have y0:Fz u9 gv 0:=Da.frozen 0;refine Zf [12] 0 ?_;refine Zo (fun K hK=>?_) ?_
      ·go_simp
       have hb:Below w8.heap.size u9 (u9.setCell ⟨gv,0,none⟩ (.slice A8 L8.length c8)):=(aa _ _).setCell (p:=⟨gv,0,none⟩) a5 _;refine Yo hK (hb) ?_;refine Ze ?_;go_wp2_with fail;go_meet;exact⟨gv,A8,L8.length,c8,L8,rfl,ao ⟨Da.set 0 _,(a8.keep fun q h1 h2=>heap_setCell_other _ _ _ _ (by show q≠gv;omega)).base bc.size,rfl,bb,k9.trans hb,a5⟩⟩
      exact aQ
     exact aQ
    exact aQ
   exact aQ
  refine Zo (fun K hK=>?_) ?_
  ·go_simp
   refine Yo hK ((au (aa _ _) _).mono I.size) ?_;obtain⟨bV,eu⟩:=Zn (wd.alloc (.cells #[.slice none 0 0] 71));obtain⟨gv,ax⟩:=Zn wd.heap.size;have Da:=Zq eu ax;have ba:=Zw eu;have a5:w8.heap.size<=gv:=ax▸I.size;have a4:Bz w8 bV:=I.trans (ba.mono I.size);rw[<-eu,<-ax];have cn:wd.heap.size<=gv:=ax▸af _;clear eu ax;refine Zf [8] 3 ?_;refine Zo (fun K hK=>?_) ?_
   ·go_simp
    refine(yU _ _ _ _ _ _ _ _ bV (a3.h.gt.below a4)).mono ?_;rintro en ni⟨rfl,rfl⟩;refine Yo hK (aa _ _) ?_;refine Zf [9] 2 ?_;refine Zo (fun K hK=>?_) ?_
    ·go_simp
     refine(vy _ _ _ _ _ _ bV (a3.h.gt.below a4).oO).mono ?_;rintro en nj⟨rfl,rfl⟩;refine Yo hK (aa _ _) ?_;refine Zf [10] 1 ?_;refine Zo (fun K hK=>?_) ?_
     ·go_simp
      refine(uM P x7.ma x7.mc x7.sa x7.sc x7.C.s G'.m.S _ _ bV (a3.h.pd.below a4) ((a3.h.gt.below a4).oO.st)).mono ?_;rintro en b2⟨A8,c8,L8,rfl,a8,bb,b8⟩;refine Yo hK (b8.mono a4.size) ?_;have hQ:Bz w8 b2:=a4.trans (b8.mono a4.size);have ew:gv<bV.heap.size:=Da.lt;replace Da:=Da.below b8;have fH:bV.heap.size<=b2.heap.size:=b8.size;have z0:Cz b2 gv 0 (.slice none 0 0):=Da.cell 0;have y0:Fz b2 gv 0:=Da.frozen 0;refine Zf [12] 0 ?_;refine Zo (fun K hK=>?_) ?_
      ·go_simp
       have hb:Below w8.heap.size b2 (b2.setCell ⟨gv,0,none⟩ (.slice A8 L8.length c8)):=(aa _ _).setCell (p:=⟨gv,0,none⟩) a5 _;refine Yo hK (hb) ?_;refine Ze ?_;go_wp2_with fail;go_meet;exact⟨gv,A8,L8.length,c8,L8,rfl,ao ⟨Da.set 0 _,(a8.keep fun q h1 h2=>heap_setCell_other _ _ _ _ (by show q≠gv;omega)).base a4.size,rfl,bb,hQ.trans hb,a5⟩⟩
      exact aQ
     exact aQ
    exact aQ
   exact aQ
  exact aQ
 obtain⟨gv,A8,n8,c8,L8,rfl,a2⟩:=hcut;obtain⟨w9,rfl⟩:=Zn wc;clear e0 e1 e2 e3 e4 e5 e6 e7 e8 e9 hO hP;have B9:=a2.h.jm;have H9:=a3.h.below B9;have D9:=fq.h.below B9;have hT:=H9.pd.right.cnt;obtain⟨N,eN⟩:=Zn P.count;have d8:ke x7.L=V:=H9.lk;have fT:x7.L.length=N:=by
  have:=HV.h.n;rw[<-d8] at this;unfold ke at this;rw[br] at this;rw[eN];exact this
 have ct:=look_ok H9.gt.oO.st;have lf:n8=N:=by
  have:=ct.n;rw[<-a2.h.eq] at this;unfold ke at this;rw[br] at this;rw[a2.h.n,eN];exact this
 subst lf;have v7:∀u,Bz w9 u->Qm u x7.vB x7.va n8 x7.vc x7.L:=fun u hu=>HV.h.Y9 d8 (H9.vw.view.keep fun q _ h2=>hu.block q h2) eN;have v8:∀u,Bz w9 u->Qm u w8.heap.size A8 n8 c8 L8:=fun u hu=>ct.Y9 a2.h.eq (a2.h.vw.keep fun q _ h2=>hu.block q h2) eN;have ey:n8<=21:=eN▸hT.1;have d9:=H9.D.lt;have hU:=D9.lt;have f0:=a2.h.D.lt;have lg:∀u,Below w9.heap.size w9.drew u->Cz u ge 13 (.slice x7.va n8 x7.vc):=fun u hu=>(Yb hu d9 (H9.D.cell 13)).trans (by rw[<-fT];rfl);have lr:∀u,Below w9.heap.size w9.drew u->Cz u ge 14 (Iz x7.seq):=fun u hu=>Yb hu d9 (H9.D.cell 14);have l3:∀u,Below w9.heap.size w9.drew u->Cz u gv 0 (.slice A8 n8 c8):=fun u hu=>Yb hu f0 (a2.h.D.cell 0);have ea:=fun u (hu:Bz w9 u)=>Tv x7.vB w8.heap.size x7.va A8 n8 x7.vc c8 x7.L L8 x7.seq u (v7 u hu) (v8 u hu) ey;rw[d8,a2.h.eq] at ea;obtain⟨nf,f1⟩:=Zn (wj V (kN P G'.m.S));rw[<-f1] at ea;obtain⟨hW,hX,hY,l4,l5,l6,l7⟩:=yY ea D9 (And.intro d9 (And.intro hU f0)) B9 H9 f1 fT;clear B9 H9 D9 hT eN d8 fT ct v7 v8 ey d9 hU f0 ea f1
 go_upto_region 4 with(fail)
 refine Zb w9.heap.size 11 [9,11] [0,1,2,3,4,5,6,7,8,9,10,11] ?_;refine Yt ?_;clear lg lr l3;refine Ym fun K hK=>?_;have I:Bz w9 w9.drew:=aS (aa _ _);refine(hW.h w9.drew I).mono ?_;rintro en wf⟨Af,cf,rfl,bf⟩;refine Yo hK (bf) ?_;have Bf:Bz w9 wf:=I.trans bf;have Df:=hX.h.below Bf;have z1:Cz wf gq 1 (.slice none 0 0):=Df.cell 1;have y1:Fz wf gq 1:=Df.frozen 1;refine Yt ?_;refine Zl fun K hK=>?_;go_simp;refine Yl hK ?_;refine aT ?_;obtain⟨wg,b4⟩:=Zn (wf.setCell ⟨gq,1,none⟩ (.slice Af nf cf));rw[<-b4];have h4:gq<w8.heap.size:=fq.h.lt;have Dg:aE wg gq 104 #[.slice A7 m7 c7, .slice Af nf cf]:=b4▸Df.set 1 _;have f2:∀q,q<w9.heap.size->q≠gq->wg.heap[q]?=w9.heap[q]?:=fun q h1 h2=>by
  rw[b4,heap_setCell_other _ _ _ _ h2];exact Bf.block q h1
 have Bg:Bz w7 wg:=b4▸(dW (dW fk.h a2.h.jm) Bf).setCell (p:=⟨gq,1,none⟩) (bu fx.h.symm) _;have l8:w9.heap.size<=wg.heap.size:=by rw[b4,lQ];exact Bf.size
 have vg:Qp wg w7.heap.size wg.heap.size A8 c8 L8:=Qp.new ((a2.h.vw.keep fun q h1 h2=>f2 q h2 ae).base fk.h.size);have ez:gv≠gq:=cA a2.h.lo;have l9:Cz wg gv 0 (.slice A8 n8 c8):=Yd (f2 gv hY.h.2.2 ez) (a2.h.D.cell 0);have h5:Cz wg ge 13 (.slice x7.va x7.L.length x7.vc):=(bR.h.D.below Bg).cell 13;have h7:Fz wg ge 13:=(bR.h.D.below Bg).frozen 13;have cv:ge≠gr:=fun e=>by
  have h1:=bH.h.t1;rw[e,b7.h] at h1
  cases h1
 have cF:gq≠ge/\gq≠gr:=by
  have h1:=bR.h.D.lt;have h2:=hL.h.lt;have h3:=fx.h;omega
 have Dr:aE wg gr 104 #[.slice none 0 0, .slice none 0 0]:=hL.h.below Bg;have eA:wg.ownsRow w6.heap.size 65 9 (.slice A7 m7 c7) m7 (qJ O):=jU hJ.h fun q _ h2=>Bg.block q h2;have a7:=bR.h.seen Bg vg a2.h.eq a2.h.n;obtain⟨mg,h8,h9,eB,eC,ia,ib,ih⟩:=Dw (show w7.heap.size<=wg.heap.size from Bg.size) Bg Dg a7 Dr eA cv cF;clear b4 f2 Bg vg ez a7 Dr eA cv cF Dg Df z1 y1 h4 l8 Bf bf I hW fk a2 fq fx bR l5 hX hY l4 l7
 go_upto_region 6 with(fail)
 obtain⟨wh,bh⟩:=Zn (wg.setCell ⟨ge,13,none⟩ (.slice A8 n8 c8));rw[<-bh];have a7:=eB.h;rw[<-bh] at a7;have Dh:aE wh gq 104 #[.slice A7 m7 c7, .slice Af nf cf]:=bh▸h9.h.block (heap_setCell_other _ _ _ _ ih.h.1);have il:aE wh gr 104 #[.slice none 0 0, .slice none 0 0]:=bh▸eC.h.block (heap_setCell_other _ _ _ _ (fun e=>ib.h e.symm));have eD:ge<w6.heap.size:=hM.h;have cH:wh.ownsRow w6.heap.size 65 9 (.slice A7 m7 c7) m7 (qJ O):=bh▸jU ia.h fun q h1 _=>heap_setCell_other _ _ _ _ (by show q≠ge;omega);have iF:Lv (fun q=>1<=ay q) w0 wh:=by
  rw[bh];refine Lv.setCell (p:=⟨ge,13,none⟩) (hI.h.cV h8.h) ?_ _;show 1<=ay ge;rw[bH.h.t1];omega
 have i3:∀u,aR wh.drew u->Cz u ge 14 (Iz x7.seq):=fun u hu=>Yb hu (show ge<wh.drew.heap.size from a7.D.lt) (a7.D.cell 14);have mi:∀u,aR wh.drew u->Cz u gq 1 (.slice Af nf cf):=fun u hu=>Yb hu (show gq<wh.drew.heap.size from Dh.lt) (Dh.cell 1);obtain⟨bt,i4,eE,eF,eI⟩:=rU a7 Dh il cH iF;clear a7 Dh il cH iF bh eB h9 eC ia hJ h8 l9 h5 h7 eD;refine bx (R:=aR) 10 [10] [0,1,2,3,4,5,6,7,8,9,10] (by kernel_rfl) aR.tr aR.J (by kernel_rfl) (fun _ _ _ _ _ h=>h) ?_;refine Yt ?_;have ml:=i3 wh.drew (aR.J _);have m3:Fz wh.drew ge 14:=bt.h.D.frozen 14;clear i3 mi;refine Zl fun K hK=>?_;go_simp;refine Yl hK ?_;refine aT ?_;obtain⟨sq,i5⟩:=Zn (IntKind.i64.wrap (x7.seq+(nf:Int)));rw[<-i5];clear i5;obtain⟨wi,bp⟩:=Zn ((wh.setCell ⟨ge,14,none⟩ (Iz sq)).drew);rw[<-bp];have Di:aE wi gq 104 #[.slice A7 m7 c7, .slice Af nf cf]:=bp▸i4.h.block (heap_setCell_other _ _ _ _ ih.h.1);have b5:aE wi gr 104 #[.slice none 0 0, .slice none 0 0]:=bp▸eE.h.block (heap_setCell_other _ _ _ _ (fun e=>ib.h e.symm));have eb:=(bt.h.YZ sq).below (aS (aa _ _));rw[<-bp] at eb;have eD:ge<w6.heap.size:=hM.h;have i6:gr<w6.heap.size:=hN.h;have cQ:wi.ownsRow w6.heap.size 65 9 (.slice A7 m7 c7) m7 (qJ O):=bp▸jU eF.h fun q h1 _=>heap_setCell_other _ _ _ _ (by show q≠ge;omega);have i7:Lv (fun q=>1<=ay q) w0 wi:=by
  rw[bp];refine Lv.drew (Lv.setCell (p:=⟨ge,14,none⟩) eI.h ?_ _);show 1<=ay ge;rw[bH.h.t1];omega
 have f3:w7.heap.size<=(wh.setCell ⟨ge,14,none⟩ (Iz sq)).heap.size:=by
  rw[lQ];exact aF mg.h bt.h.vw.1
 obtain⟨zz,i9⟩:=Zn ((wh.setCell ⟨ge,14,none⟩ (Iz sq)).heap.size);rw[<-i9] at f3 eb;have m4:=ao f3;have q0:=Di.cell 0;have q1:=Di.cell 1;have r0:=b5.cell 0;have r1:=b5.cell 1;have s0:=b5.frozen 0;have s1:=b5.frozen 1;have hw:=bO (us:=[.slice A7 m7 c7, .slice Af nf cf]) b5 rfl;simp only[fW] at hw;obtain⟨j0,j1,j2,HW⟩:=mh eb cQ i7 hw;clear Di b5 eb cQ i7 hw bp ml m3 i4 eE eF eI bt f3 i9;go_wp2_with fail;have eJ:gr<w0.heap.size:=eP.h.lt;have m8:=cT.h.size;have m9:w0.heap.size<=w7.heap.size:=hI.h.size;have hz:=m4.h;have f4:∀q,q<w0.heap.size->mL (mL et w7.heap.size fun _=>8) zz (fun _=>0) q=ay q:=fun q hq=>by
  rw[fD ae,fD ae,kx.h q hq]
 have j3:∀q,q<w.heap.size->ay q=tag q:=fun q hq=>by rw[gi.h,fD hq]
 have HZ:=(j0.h.off (gr:=gr) (i:=0) ((f4 gr eJ).trans b7.h) (.slice A7 m7 c7)).off (gr:=gr) (i:=1) ((f4 gr eJ).trans b7.h) (.slice Af nf cf);have i6:gr<w6.heap.size:=hN.h;have eK:((wi.setCell ⟨gr,0,none⟩ (.slice A7 m7 c7)).setCell ⟨gr,1,none⟩ (.slice Af nf cf)).ownsRow w6.heap.size 65 9 (.slice A7 m7 c7) m7 (qJ O):=
  jU (jU j1.h fun q h1 _=>heap_setCell_other _ _ _ _ (by show q≠gr;omega)) fun q h1 _=>heap_setCell_other _ _ _ _ (by show q≠gr;omega)
 have LZ:Lv (fun q=>1<=tag q) w ((wi.setCell ⟨gr,0,none⟩ (.slice A7 m7 c7)).setCell ⟨gr,1,none⟩ (.slice Af nf cf)):=by
  have L1:Lv (fun q=>1<=tag q\/q=gr) w wi:=(Lv.bL cT.h).trans j2.h fun q hq=>by
   by_cases h0:q<w.heap.size
   ·exact .inl (.inl (by rw[<-j3 q h0];exact hq))
   ·exact .inr ae
  refine((L1.setCell (p:=⟨gr,0,none⟩) (.inr rfl) _).setCell (p:=⟨gr,1,none⟩) (.inr rfl) _).mono fun q hq=>?_;rcases hq with h1|h1
  ·exact .inl h1
  ·exact .inr (h1▸kf.h▸af _)
 have DW:=HW.h;obtain⟨wz,m5⟩:=Zn ((wi.setCell ⟨gr,0,none⟩ (.slice A7 m7 c7)).setCell ⟨gr,1,none⟩ (.slice Af nf cf));rw[<-m5] at DW HZ eK LZ⊢;have t0:Cz wz gr 0 (.slice A7 m7 c7):=DW.cell 0;have t1:Cz wz gr 1 (.slice Af nf cf):=DW.cell 1;refine bodyPost_ret (v:= .agg #[.slice A7 m7 c7, .slice Af nf cf]) (by simp[results,Tryz.results80,go_sem,t0,t1];try rfl) rfl ?_;obtain rfl:=k6.h;refine⟨A7,c7,nf,⟨Af,cf,rfl⟩,l6.h,ch eK (aB _),_,_,HZ,fun q hq=>(f4 q ae).trans (j3 q hq),LZ,k3.h⟩
theorem Qq (B0 ge:Nat) (P:PD) (G:vJ) (V:vZ) (x:N1) (tag:Nat->Nat) (y:List UInt8) (A:Option Addr) (n c:Nat) (w:World) (h:kP w B0 ge P G V x tag) (hn:y.length=n) (J:n<=255) (hk:x.k<=1000000000) (O:x.dl.length+n+6<=1048576) (hA:Cells w A (ij y)):
  Wz 81 #[Pz x.j, .slice A n c] w fun e w'=>e= .returned (Iz 0)/\∃r',kP w' B0 ge P G V {x with r:=r',dl:=x.dl++nh y,k:=x.k+1} (mL tag w.heap.size fun _=>4)/\Lv (fun q=>1<=tag q) w w'/\w'.heap[ge]?=w.heap[ge]?:=by
 have ax:x.j≠x.d:=fun e=>by
  have h1:=h.t3;rw[e,h.t2] at h1
  cases h1
 have ay:some x.j≠x.r:=fun e=>by
  have h1:=h.t4 _ e.symm;rw[h.t3] at h1
  cases h1
 refine(J5 x.j x.d x.k x.r x.dl y x.ds A n c w h.jr h.dk ax ay hn J hk O hA).mono ?_;rintro e w'⟨rfl,r',D',a0,J',L⟩;have I:=h.t1;refine⟨rfl,r',h.YY L D' a0 J',⟨L.os,L.tape,L.output,L.size,fun q hq hf=>L.block q hq (fun e=>hf ?_) (fun e=>hf ?_) (fun e=>hf ?_)⟩,L.block ge h.D.lt (fun e=>?_) (fun e=>?_) (fun e=>?_)⟩
 ·show 1<=tag q
  rw[e,h.t2];omega
 ·show 1<=tag q
  rw[e,h.t3];omega
 ·show 1<=tag q
  rw[h.t4 q e.symm];omega
 ·rw[e,h.t2] at I;cases I
 ·rw[e,h.t3] at I;cases I
 ·rw[h.t4 ge e.symm] at I;cases I
theorem N2 {T:TypeId} {g i:Nat} (h:w.ownsRow B e z v n xs) (hg:aE w g T cs) (I:e≠T) (u:Value):(w.setCell ⟨g,i,none⟩ u).ownsRow B e z v n xs:=by
 refine⟨h.1,?_⟩;rcases h.2 with J|⟨b,cap,cur,hv,O,D,rest⟩
 ·exact .inl J
 ·refine .inr ⟨b,cap,cur,hv,O,(heap_setCell_other _ _ _ _ ?_).trans D,rest⟩
  rintro rfl;unfold aE at hg;have e1:=D.symm.trans hg;injection e1 with e1;injection e1 with _ e2;exact I e2
def Yp (w:World) (B0 ge:Nat) (P:PD) (G:vJ) (V:vZ) (x:N1) (tag:Nat→Nat) (s:Nat) (b:List UInt8) (e:Ending) (w':World):Prop:=
 ∃A1 c1 n2 A2 c2 x' tag',e= .returned (.agg #[.slice A1 (yb P G s b).2.length c1, .slice A2 n2 c2])∧n2=wj V (kN P (yb P G s b).1.m.S)∧
   sO 0 w' A1 c1 (yb P G s b).2∧kP w' B0 ge P (yb P G s b).1 (kN P (yb P G s b).1.m.S) x' tag'∧(∀q,q<w.heap.size→tag' q=tag q)∧Lv (fun q=>1≤tag q) w w'∧x'.ln=x.ln+1∧x'.k=x.k+1∧x'.dl=x.dl++nh (UInt8.ofNat s::b)
theorem Ve (B0 ge:Nat) (P:PD) (G:vJ) (V:vZ) (x:N1) (tag:Nat->Nat) (s:Nat) (A:Option Addr) (n c:Nat) (b:List UInt8) (w:World) (h:kP w B0 ge P G V x tag) (hV:Yk P V) (hs:s<8) (hn:b.length=n) (hl:n<=254) (hc:n<=c) (cl:c<=9223372036854775807) (hA:Cells w A (ij b)) (cm:∀q,qP A q->q<w.heap.size->tag q=0)
  (cn:G.m.un<1000000) (ct:G.on+3+1503*(gw s b).1.aw.toNat<1000000) (ez:x.ln<=1000) (hk:x.k<=1000000000) (bp:x.dl.length+n+7<=1048576) (cv:(gw (s:Int) b).2=0) (eA:b≠[]):
  Wz 49 #[Pz ge,Iz (s:Int), .slice A n c] w (Yp w B0 ge P G V x tag s b):=by
 obtain⟨H,HV,HN,HA,eB,eC,HS,cF,eD,HK,eE⟩:=Hl h hV hn hA ct cn hs cm cv hk bp;clear h hV hn hA ct cn hs cm cv hk bp
 go_enter Tryz.func49,Tryz.ntmps49
 go_upto_region 1 with(fail)
 obtain⟨w0,a2⟩:=Zn (w.alloc (.cells #[.slice none 0 0, .slice none 0 0] 104));obtain⟨gr,a3⟩:=Zn w.heap.size;have b2:=Zw a2;have DR:=Zq a2 a3;rw[<-a2,<-a3];have H0:=H.h.below b2;have eF:Cz w0 ge 12 (Pz x.gg):=H0.D.cell 12;obtain⟨cH,cQ,eG,cS⟩:=mh b2 DR H0 a3;clear a2 b2 DR H0 a3;go_wp2_with fail;refine(Mh _ (s:Int) A n c b w0 HN.h (by omega) hc cl (HA.h.below cH.h)).mono ?_;rw[eD.h];rintro e w1⟨rfl,b1⟩;obtain⟨ax,cT⟩:=dF (dW cH.h b1) (cQ.h.below b1);have H1:=H.h.below ax.h;obtain⟨cX,b4⟩:=Zn (mL tag w.heap.size fun _=>0);rw[<-b4] at H1;obtain⟨Fs,b5⟩:=Zn (fun j=>j=ge:Nat->Prop);have m0:Fs ge:=by rw[b5]
 have k1:∀u,aI Fs w1.drew u->Cz u ge 11 (Pz x.j):=fun u hu=>(hu.cell m0).trans (H1.D.cell 11);obtain⟨a4,b6,eI,c0⟩:=mh b5 H1.D.lt H1 b4;clear b1 eF H1 eG cQ b4 m0 b5
 go_upto_region 3 with(fail)
 refine bx (R:=aI Fs) 99999 [6,8,9,10] [0,1,2,3,4,5,7,6,8,9,10,11] (by kernel_rfl) (aI.tr _) (aI.J _) (by kernel_rfl) (fun _ _ _ _ _ h=>h) ?_;refine Yt ?_;clear k1;refine Ym fun K hK=>?_;have dc:IntKind.u8.wrap (s:Int)=(s:Int):=by have:=HS.h;rw[IntKind.wrap_u8];omega
 rw[dc];obtain⟨v1,a5⟩:=Zn ((w1.alloc (.cells #[.int .u8 (s:Int)] 5)).drew);have B1:Bz w1 v1:=by rw[a5];exact aS (au (aa _ _) _)
 have D1:aE v1 w1.heap.size 5 #[.int .u8 (s:Int)]:=by rw[a5];exact(aE.new _ _ _).drew
 have dp:aI Fs w1.drew v1:=fun j hj=>by rw[a4.h] at hj;subst hj;exact B1.block _ b6.h
 rw[<-a5];obtain⟨b7,dS⟩:=dF B1 D1;clear a5 B1 D1 dc;refine Yo hK (dp) ?_;clear dp;refine Yt ?_;refine Ym fun K hK=>?_;obtain⟨v2,a6⟩:=Zn (v1.alloc (.cells #[.slice (some ⟨w1.heap.size,0,none⟩) 1 1, .slice A n c] 62));have B2:=Zw a6;have D2:aE v2 v1.heap.size 62 #[.slice (some ⟨w1.heap.size,0,none⟩) 1 1, .slice A n c]:=by rw[a6];exact aE.new _ _ _
 have dT:aI Fs v1 v2:=fun j hj=>by rw[a4.h] at hj;subst hj;exact B2.block _ (aA b6.h b7.h.size)
 rw[<-a6];obtain⟨a7,a8,ay⟩:=fY (dW b7.h B2) D2 (dS.h.below B2);clear a6 B2 D2 b7 dS;refine Yo hK (dT) ?_;clear dT;refine Yt ?_;refine Ym fun K hK=>?_;have d2:ij [UInt8.ofNat s]=[.int .u8 (s:Int)]:=by
  have:=HS.h;simp[ij];omega
 have d3:Cells v2 (some ⟨w1.heap.size,0,none⟩) (ij [UInt8.ofNat s]):=by
  rw[d2];intro _;refine⟨_,_,rfl,ay.h.lt,fun k v hv=>?_⟩;rw[ay.h.cell];simpa using hv
 have d4:Cells v2 A (ij b):=HA.h.below (dW ax.h a7.h);obtain⟨d5,d6⟩:=dF d3 d4;clear d3 d4 d2;refine(Dn v1.heap.size _ 1 1 [UInt8.ofNat s] A n c b v2 a8.h.lt (a8.h.cell 0) (a8.h.cell 1) rfl HN.h (by omega) (by omega) (by omega) d5.h d6.h).mono ?_;rintro e v3⟨A3,c3,rfl,bt,d7,d8,eJ,b3⟩;have b8:([UInt8.ofNat s]++b).length=n+1:=by rw[aC,HN.h];simp;omega
 rw[b8] at bt d8⊢;have d9:aI Fs v2 v3:=fun j hj=>by rw[a4.h] at hj;subst hj;exact b3.block _ (aA b6.h a7.h.size)
 obtain⟨a0,eK,eL⟩:=fY (dW a7.h b3) d7 b8;clear bt d7 d8 eJ b3 d5 d6 a8 ay a7 b8;refine Yo hK (d9) ?_;clear d9;refine Yt ?_;refine Ym fun K hK=>?_;have H3:=eI.h.below a0.h;obtain⟨I,ba⟩:=Zn (mL cX w1.heap.size fun _=>0);rw[<-ba] at H3;refine(Qq B0 ge P G V x I ([UInt8.ofNat s]++b) A3 (n+1) c3 v3 H3 eL.h (by omega) HK.h (by have:=eE.h;omega) eK.h).mono ?_;rintro e w4⟨rfl,r4,H4,L4,ea⟩;have eb:aI Fs v3 w4:=fun j hj=>by rw[a4.h] at hj;subst hj;exact ea
 obtain⟨x4,b9⟩:=Zn ({x with r:=r4,dl:=x.dl++nh ([UInt8.ofNat s]++b),k:=x.k+1}:N1);obtain⟨O,bb⟩:=Zn (mL I v3.heap.size fun _=>4);rw[<-b9,<-bb] at H4;have ed:x4.ln=x.ln/\x4.k=x.k+1/\x4.dl=x.dl++nh (UInt8.ofNat s::b):=by rw[b9];exact⟨rfl,rfl,rfl⟩
 have h1:=ax.h.size;have h2:=a0.h.size;have bc:∀q,q<w.heap.size->I q=tag q:=fun q hq=>by rw[ba,fD (by omega),c0.h,fD hq]
 have t4:∀q,q<w.heap.size->O q=tag q:=fun q hq=>by rw[bb,fD (by omega),bc q hq]
 have bE:gr<w1.heap.size:=cT.h.lt;have cd:I gr=0:=by rw[ba,fD bE,c0.h,cS.h,lG (af _)]
 have ef:O gr=0:=by rw[bb,fD (by omega),cd]
 have bf:∀q,qP A q->q<w.heap.size:=fun q ⟨o,ho⟩=>by
  obtain⟨g,o',h3,h4,_⟩:=HA.h (by intro e;have e2:=congrArg List.length e;rw[kW] at e2;exact eA (aP e2));rw[ho] at h3;injection h3 with h3;injection h3 with h3;omega
 have A4:Cells w4 A (ij b):=L4.cells ((HA.h.below ax.h).below a0.h) fun q o e h5=>by
  have h6:=bf q ⟨o,e⟩;have eM:1<=I q:=h5;rw[bc q h6,cF.h q ⟨o,e⟩ h6] at eM;omega
 have D4:aE w4 gr 104 #[.slice none 0 0, .slice none 0 0]:=(cT.h.below a0.h).lv L4 (by rw[cd];omega);have eg:Lv (fun q=>1<=tag q\/w.heap.size<=q) w w4:=((Lv.bL ax.h).cV a0.h).trans L4 fun q hq=>by
  by_cases h0:q<w.heap.size
  ·exact .inl (.inl (by rw[<-bc q h0];exact hq))
  ·exact .inr (by omega)
 have bH:∀q,qP A q->q<w4.heap.size->O q=0:=fun q hq _=>by rw[t4 q (bf q hq),cF.h q hq (bf q hq)]
 obtain⟨eN,bh,ei,bQ,eO,ej,bR,ek⟩:=Dw H4 ed t4 ef A4 D4 eg bH;clear H3 ba H4 L4 ea b9 bb ed h1 h2 bc t4 bE cd ef bf A4 D4 eg bH;refine Yo hK (eb) ?_;clear eb;refine Yt ?_;refine aT ?_;go_wp2_with fail;refine(Vd B0 ge P G V x4 O s A n c b w4 eN.h HV.h HS.h HN.h (by omega) hc cl eO.h ek.h eC.h eB.h (by rw[bh.h.1];exact ez)).mono ?_;rintro e w5⟨A1,c1,n2,A2,c2,x5,bU,rfl,el,bV,H5,eo,L5,ep⟩;have D5:aE w5 gr 104 #[.slice none 0 0, .slice none 0 0]:=ej.h.lv L5 (by rw[bQ.h];omega);have r0:=D5.cell 0;have r1:=D5.cell 1;have s0:=D5.frozen 0;have s1:=D5.frozen 1;have hw:=bO (us:=[.slice A1 (yb P G (s:Int) b).2.length c1, .slice A2 n2 c2]) D5 rfl;simp only[fW] at hw;obtain⟨m5,cf⟩:=Zn ((yb P G (s:Int) b).2.length);rw[<-cf] at hw⊢;obtain⟨HW,eP,eQ,eR,er,eS,ck,eT,et⟩:=QG hw el bV H5 eo L5 ep cf D5;clear hw el bV H5 eo L5 ep cf D5;go_wp2_with fail;have eu:gr<w4.heap.size:=ej.h.lt;have ew:bU gr=0:=(er.h gr eu).trans bQ.h;have eV:=bR.h.size;have DA:=et.h.set 0 (.slice A1 m5 c1);have HZ:=(eR.h.off (gr:=gr) (i:=0) ew (.slice A1 m5 c1)).off (gr:=gr) (i:=1) ew (.slice A2 n2 c2);have b0:=N2 (i:=1) (N2 (i:=0) eQ.h et.h (by decide) (.slice A1 m5 c1)) DA (by decide) (.slice A2 n2 c2);have LZ:Lv (fun q=>1<=tag q) w ((w5.setCell ⟨gr,0,none⟩ (.slice A1 m5 c1)).setCell ⟨gr,1,none⟩ (.slice A2 n2 c2)):=by
  have L1:Lv (fun q=>1<=tag q\/w.heap.size<=q) w w5:=bR.h.trans eS.h fun q hq=>by
   by_cases h0:q<w.heap.size
   ·exact .inl (.inl (by rw[<-ei.h q h0];exact hq))
   ·exact .inr (by omega)
  have ey:w.heap.size<=gr:=by rw[cS.h];exact af _
  refine((L1.setCell (p:=⟨gr,0,none⟩) (.inr ey) _).setCell (p:=⟨gr,1,none⟩) (.inr ey) _).mono fun q hq=>?_;rcases hq with h1|h1
  ·exact .inl h1
  ·exact .inr h1
 have DW:=HW.h;obtain⟨wz,eU⟩:=Zn ((w5.setCell ⟨gr,0,none⟩ (.slice A1 m5 c1)).setCell ⟨gr,1,none⟩ (.slice A2 n2 c2));rw[<-eU] at DW HZ b0 LZ⊢;have t0:Cz wz gr 0 (.slice A1 m5 c1):=DW.cell 0;have t1:Cz wz gr 1 (.slice A2 n2 c2):=DW.cell 1;refine bodyPost_ret (v:= .agg #[.slice A1 m5 c1, .slice A2 n2 c2]) (by simp[results,Tryz.results49,go_sem,t0,t1];try rfl) rfl ?_;refine⟨A1,c1,n2,A2,c2,x5,bU,by rw[eT.h],eP.h,b0,HZ,fun q hq=>(er.h q (by omega)).trans (ei.h q hq),LZ,?_,?_,?_⟩
 ·rw[ck.h.1,bh.h.1]
 ·rw[ck.h.2.1,bh.h.2.1]
 ·rw[ck.h.2.2,bh.h.2.2]
theorem MM (A:Option Addr) (n c:Nat) (xs:List Value) (w:World) (hn:xs.length=n*1) (O:n<=1000000) (hA:Cells w A xs) (h1:∀u∈xs,u.oneCell'=true) (D:A=none->c=0):
  Wz 76 #[.slice A n c] w fun e w'=>xq w w' 2 1 A n xs e:=by
 rcases A with _|a
 ·obtain⟨rfl,rfl⟩:=xr hA hn ae
  obtain rfl:=D rfl;have D:=Lib.run_eql_slice_nil (P:=Tryz.prog) w 23 2 none 0 0 0 0 Tryz.underlying23
  go_enter Tryz.func76,Tryz.ntmps76
  go_wp2;go_ret;exact⟨none,0,rfl,aM _ _ _ _, .inl rfl,aa _ _⟩
 ·have D:=Lib.run_eql_slice_nil (P:=Tryz.prog) w 23 2 (some a) n c 0 0 Tryz.underlying23
  have HN:=ao hn;clear hn
  go_enter Tryz.func76,Tryz.ntmps76
  go_wp2_with (at_builtin
               refine lK sL (cI (base:=w.heap.size) w #[] 0 (af _) (aB _) rfl) (news:=xs) rfl _ _ rfl rfl rfl HN (hA.alloc _) h1 ae bT n xs ae bT ?_;intro A' c' w2 J)
  go_ret;refine⟨A',c',rfl,J.own, .inr ?_,J.below _ _ (af _) (au (aa _ _) _)⟩;rcases J.jV with O|O
  ·rcases J.own.2 with⟨I,_⟩|⟨g,cap,cur,hv,hb,_⟩
   ·injection I with I;subst I;simp[Value.ownBlock] at O
   ·injection hv with hv;exact⟨g,hv,hb⟩
  ·rcases J.own.2 with⟨I,_⟩|⟨g,cap,cur,hv,hb,_⟩
   ·injection I with I;subst I;simp[Value.ownBlock] at O
   ·injection hv with hv;exact⟨g,hv,hb⟩
theorem Qr (B:Nat) (P:PD) (ma:Option Addr) (mc:Nat) (sa:Option Addr) (sc:Nat) (d:Nat) (w:World) (h:iZ w P ma sa) (hD:fj w d none [] 0) (hB:B<=d) (eo:∀q,qP ma q\/qP sa q->q≠d):
  Wz 47 #[P.val ma mc sa sc, Pz d] w fun e w'=> ∃ge x tag,e= .returned (.tuple #[Pz ge,Iz 0])/\kP w' B ge P (vJ.new P) (kN P (Mk.new P).S) x tag/\x.ln=0/\x.k=0/\x.dl=[]/\(∀q,q<w.heap.size->q≠d->tag q=0)/\Lv (fun q=>q=d) w w':=by
 have hP:=h.right;obtain⟨w0,ba⟩:=Zn (w.alloc (.cells (P.cells ma mc sa sc) 25));obtain⟨g,eg⟩:=Zn w.heap.size;have B0:=Zw ba;have D0:=Zq ba eg;have h0:=h.below B0;obtain⟨c0,c1,c2,c3,c4,c5,c6,c7,c8,c9,wJ⟩:=fM.gX (w:=w0) (g:=g) D0;have b4:=SK P ma mc sa sc w0 h0;have b6:=hD.jC.1;obtain⟨H0,a0,cn,HP,EG,ep,b7⟩:=yY h0 D0 B0 hP eg hD b6;rw[PD.jt] at b4⊢;have ct:=ao b4;clear h h0 D0 B0 hP b4 hD b6
 go_enter Tryz.func47,Tryz.ntmps47
 go_upto_region 1 with(fail)
 rw[<-ba,<-eg];clear ba eg;go_wp2_with fail;refine ct.h.mono ?_;rintro e w1⟨gg,gm,ob,C,Gs,R,rfl,gt,b1,cv⟩;obtain⟨cF,b8,a2⟩:=fY gt cv b1;have bV:=(ep.h.below cn.h).below b1;have cH:=ao bV;clear c0 c1 c2 c3 c4 c5 c6 c7 c8 c9 wJ gt cv b1 ct bV;go_wp2_with fail;refine(Qk d none [] 0 w1 cH.h rfl).mono ?_;rintro e I⟨j,A2,n2,c2,e0,r2,rfl,cQ,cS,er,eu,cT,hJ,hj,cX,D2,dc,L2⟩;obtain rfl:n2=0:=cQ.symm;obtain⟨HJ,ew,ey,bb,dp,O⟩:=FW hJ hj cX D2 dc L2;clear cQ cS er eu cT hJ hj cX D2 dc L2
 go_upto_region 7 with(fail)
 have D1:aE I g 25 (P.cells ma mc sa sc):=(a0.h.below a2.h).block (O.h.block g (a0.h.below a2.h).lt (by have:=b7.h;have:=EG.h;omega) (by simp));have h2:iZ I P ma sa:=(H0.h.below a2.h).same (fun k hk ez=>O.h.block k ez (eo k hk) (by simp)) O.h.size;have e3:g<I.heap.size:=D1.lt;have l1:∀u,Below I.heap.size I.drew u->Cz u g 1 (.slice ma P.E.length mc):=fun u hu=>(D1.below ((aS (aa _ _)).trans hu)).cell 1;have dS:∀u,Below I.heap.size I.drew u->Cz u g 10 (.slice sa P.settle.length sc):=fun u hu=>(D1.below ((aS (aa _ _)).trans hu)).cell 10;obtain⟨n1,a3⟩:=Zn P.E.length;obtain⟨n2,a4⟩:=Zn P.settle.length;rw[<-a3] at l1;rw[<-a4] at dS;have dT:(bZ P.E).length=n1*1:=by simp[bZ,a3]
 have d2:(bZ P.settle).length=n2*1:=by simp[bZ,a4]
 have b0:bZ P.E≠[]:=by intro e;have:=congrArg List.length e;have h2:=HP.h.n2;simp[bZ] at this;rw[this] at h2;simp at h2
 have b2:bZ P.settle≠[]:=by intro e;have:=congrArg List.length e;have h2:=HP.h.n2;have h3:=HP.h.vI;simp[bZ] at this;rw[this] at h3;simp at h3;omega
 have e4:n1<=6:=by rw[a3];exact HP.h.n6
 have e5:n2<=6:=by rw[a4,HP.h.vI];exact HP.h.n6
 have a5:ma=none->mc=0:=fun e=>by obtain⟨b,o,h3,_⟩:=h2.m b0;rw[e] at h3;cases h3
 have a6:sa=none->sc=0:=fun e=>by obtain⟨b,o,h3,_⟩:=h2.s b2;rw[e] at h3;cases h3
 obtain⟨eA,eB,eC,eD,eE,eF,d3,eG,eI⟩:=QG dT d2 h2.m h2.s a3 a4 D1 a5 a6;clear D1 dT d2 b0 b2 a3 a4 h2 a5 a6;refine oM (R:=Below I.heap.size) 10 [7,8,9] (by kernel_rfl) (by kernel_rfl) ?_;refine kF [0,1,3,4] 6 (fun _ _ _ _ _ h=>h) (by kernel_rfl) (dH.J _ _) ?_;refine Yr ?_;clear l1 dS;obtain⟨u0,b9⟩:=Zn I.drew;have bc:Bz I u0:=by rw[b9];exact aS (aa _ _)
 have bf:I.heap.size<=u0.heap.size:=bc.size;rw[<-b9];clear b9;refine dt [2] (dH.tr _) 5 (by kernel_rfl) ?_;refine dh (by rfl) (by rfl) (fun K hK=>?_) ?_
 ·go_simp
  refine(Cq ma n1 mc (bZ P.E) u0 eA.h (by omega) (eC.h.below bc) (jA _) eG.h).mono ?_;rintro e u1⟨A3,c3,rfl,r1, -,cd⟩;refine Yo hK (cd.mono bf) ?_;have bh:=bc.trans (cd.mono bf);have bp:I.heap.size<=u1.heap.size:=bh.size;refine kF [6] 4 (fun _ _ _ _ _ h=>h) (by kernel_rfl) (dH.J _ _) ?_;refine Yr ?_;refine dt [5] (dH.tr _) 3 (by kernel_rfl) ?_;refine dh (by rfl) (by rfl) (fun K hK=>?_) ?_
  ·go_simp
   refine(MM sa n2 sc (bZ P.settle) u1 eB.h (by omega) (eD.h.below bh) (jA _) eI.h).mono ?_;rintro e u2⟨A7,c7,rfl,r2, -,bt⟩;refine Yo hK (bt.mono bp) ?_;have cf:=bh.trans (bt.mono bp);have G:=d3.h.below cf;have f1:Fz u2 g 1:=G.frozen 1;have eJ:Fz u2 g 10:=G.frozen 10;have q1:Cz u2 g 1 (.slice ma P.E.length mc):=G.cell 1;have eK:Cz u2 g 10 (.slice sa P.settle.length sc):=G.cell 10;have fin:=vx (B:=w.heap.size) HP.h d3.h eE.h eF.h cf (ch (bP r1 bt) bf) (ch r2 bp) (bu EG.h.symm);have d4:=ao fin;clear fin r1 r2;refine dz 7 2 (by kernel_rfl) (by rfl) (by rfl) (fun K hK=>?_);go_simp;refine Yl hK ?_;refine dz 8 1 (by kernel_rfl) (by rfl) (by rfl) (fun K hK=>?_);go_simp;refine Yl hK ?_;refine dz 9 0 (by kernel_rfl) (by rfl) (by rfl) (fun K hK=>?_);go_simp;refine Yl hK ?_;refine mK (by kernel_rfl) ?_;obtain⟨w3,d5⟩:=Zn ((u2.setCell ⟨g,1,none⟩ (.slice A3 n1 c3)).setCell ⟨g,10,none⟩ (.slice A7 n2 c7));have F:=d4.h;rw[<-d5] at F⊢;obtain⟨⟨bE,bH,bQ,bR,D3,P3,d6,B3⟩,L3⟩:=F;have L2:Lv (fun q=>q=d) w1 I:=⟨O.h.os,O.h.tape,O.h.output,O.h.size,fun q hq hf=>O.h.block q hq hf (by simp)⟩;have ck:w.heap.size<w0.heap.size:=by have:=a0.h.lt;have:=EG.h;omega
   have G2:=cF.h.lv L2 (fun q hq e=>by have D:=b8.h q (by rcases hq with e|e|e|e|e|e;exact .inl e;exact .inr (.inl e);exact .inr (.inr (.inl e));exact .inr (.inr (.inr (.inl e)));exact .inr (.inr (.inr (.inr (.inl e))));exact .inr (.inr (.inr (.inr (.inr e)))));have e':q=d:=e;have:=b7.h;omega);have G3:=G2.lv L3 (fun q hq e=>by have D:=b8.h q (by rcases hq with e|e|e|e|e|e;exact .inl e;exact .inr (.inl e);exact .inr (.inr (.inl e));exact .inr (.inr (.inr (.inl e)));exact .inr (.inr (.inr (.inr (.inl e))));exact .inr (.inr (.inr (.inr (.inr e)))));have e':q=g:=e;have:=a0.h.lt;omega);have d7:g<w3.heap.size:=D3.lt;have z:=fun(i:Nat) u (hu:aR w3.drew u)=>Yb hu (show g<w3.drew.heap.size from d7) (D3.cell i);have z0:∀u,aR w3.drew u->Cz u g 0 (.string (str P.code)):=z 0;have z1:∀u,aR w3.drew u->Cz u g 1 (.slice bE P.E.length bH):=z 1;have z2:∀u,aR w3.drew u->Cz u g 2 (Iz P.tick):=z 2;have z3:∀u,aR w3.drew u->Cz u g 3 (Iz P.low):=z 3;have z4:∀u,aR w3.drew u->Cz u g 4 (Iz P.high):=z 4;have z5:∀u,aR w3.drew u->Cz u g 5 (Iz P.wide):=z 5;have z6:∀u,aR w3.drew u->Cz u g 6 (Iz P.rule):=z 6;have z7:∀u,aR w3.drew u->Cz u g 7 (Iz P.top):=z 7;have z8:∀u,aR w3.drew u->Cz u g 8 (Iz P.least):=z 8;have z9:∀u,aR w3.drew u->Cz u g 9 (Iz P.part):=z 9;have eL:∀u,aR w3.drew u->Cz u g 10 (.slice bQ P.settle.length bR):=z 10;obtain⟨eM,d8,eN,e6,a7,d9,eO⟩:=yY G3 P3 d6 B3 L3 L2 ck;clear z D3 P3 d6 B3 L3 L2 G2 G3 ck d5 d4 d7 f1 eJ q1 eK G cf bt bh cd bp bc bf
   go_upto_region 8 with(fail)
   refine Zg [5,6,7,9] [0,1,2,3,4,5,6,7,8,9,10] ?_;refine Yt ?_;clear z0 z1 z2 z3 z4 z5 z6 z7 z8 z9 eL;refine Ym fun K hK=>?_;have a8:Bz w3 w3.drew:=aS (aa _ _);have G4:=eM.h.below a8;refine(yU _ _ _ _ _ _ _ _ w3.drew G4).mono ?_;rintro en v1⟨rfl,rfl⟩;refine Yo hK (aR.J _) ?_;refine Yt ?_;refine Ym fun K hK=>?_;refine(vy _ _ _ _ _ _ w3.drew G4.oO).mono ?_;rintro en v1⟨rfl,rfl⟩;refine Yo hK (aR.J _) ?_;refine Yt ?_;refine Ym fun K hK=>?_;refine(uM P bE bH bQ bR C.s (vJ.new P).m.S _ _ w3.drew (d8.h.below a8) G4.oO.st).mono ?_;rintro en w5⟨A8,c8,L8,rfl,ea,eb,b5⟩;refine Yo hK (b5) ?_;have G5:=G4.below b5;have P5:=(d8.h.below a8).below b5;obtain⟨eP,eQ,ed,b3,eR,eS⟩:=FW ea eb b5 a8 G5 P5;clear ea eb b5 a8 G4 G5 P5;refine Yt ?_;refine Ym fun K hK=>?_;refine Yo hK (au (aa _ _) _) ?_;refine Yt ?_;refine aT ?_;obtain⟨x,ex⟩:=Zn (⟨gg,gm,ob,C,Gs,R,d,j,r2,[].take (gU [] 0).stop,uN [] 0,0,bE,bH,bQ,bR,A8,c8,L8,w3.heap.size,w5.heap.size,0,none,0,0,[]⟩:N1);obtain⟨tag,et⟩:=Zn (fun q=>if q=d then 2 else if q<w0.heap.size then 0 else if q<w1.heap.size then 5 else if q<I.heap.size then (if q=j then 3 else 4) else if q<w3.heap.size then 7 else if q<w5.heap.size then 8 else if q=w5.heap.size then 1 else 0:Nat->Nat);obtain⟨ge,bU⟩:=Zn w5.heap.size;obtain⟨w6,ax⟩:=Zn (w5.alloc (.cells (x.cells P) 148));have e7:=a2.h.size;have e9:=d9.h.size;have eT:=a7.h.size;have fa:=b3.h.size;have ff:=ed.h.size;have eZ:w3.drew.heap.size=w3.heap.size:=rfl;have b6:=b7.h;have ck:=eO.h;have fi:=ew.h;have eU:j<I.heap.size:=HJ.h.lt;have fk:g<w0.heap.size:=a0.h.lt;have ay:=Zw ax;have cl:Bz w3 w6:=dW (dW b3.h ed.h) ay;have eV:g≠d:=by have:=EG.h;omega
   have D3:fj w3 d r2 ([].take (gU [] 0).stop) (uN [] 0):=bb.h.keep (a7.h.block d (bb.h.jC.1) (fun e=>eV e.symm)) (fun q hq=>a7.h.block q (bb.h.jC.2 q hq).2 (fun e=>by
    rcases dp.h with D|D
    ·rw[D] at hq;cases hq
    ·have:=D q hq;have e':q=g:=e;omega)) eT
   have J3:jD w3 j d 0:=HJ.h.keep (a7.h.block j eU (fun e=>by have e':j=g:=e;omega));have tg:∀q,tag q=if q=d then 2 else if q<w0.heap.size then 0 else if q<w1.heap.size then 5 else if q<I.heap.size then (if q=j then 3 else 4) else if q<w3.heap.size then 7 else if q<w5.heap.size then 8 else if q=w5.heap.size then 1 else 0:=fun q=>by rw[et]
   clear et;have ef:kP w6 B ge P (vJ.new P) (kN P (Mk.new P).S) x tag:=by
    subst ex;refine⟨by rw[ax,bU];exact aE.new _ _ _,eS.h.below ay,D3.below cl,J3.below cl,eR.h.below ay,(Qp.new eP.h).keep ay.size (fun q _ h6=>ay.block q h6),eQ.h,aM _ _ _ _,?_,?_,?_,?_,?_,?_,?_,?_,?_,?_⟩
    ·rw[tg,bU];repeat(first|rw[if_pos (by omega)]|rw[if_neg (by omega)])
    ·show tag d=2
     rw[tg];repeat(first|rw[if_pos (by omega)]|rw[if_neg (by omega)])
    ·show tag j=3
     rw[tg];repeat(first|rw[if_pos (by omega)]|rw[if_neg (by omega)])
    ·intro q hq
     have D:w1.heap.size<=q:=by
      rcases dp.h with D|D
      ·rw[show r2=some q from hq] at D;cases D
      ·exact D q hq
     have h6:q<I.heap.size:=(bb.h.jC.2 q hq).2;have h7:q≠j:=fun e=>ey.h (by rw[<-e];exact(show r2=some q from hq).symm);rw[tg];repeat(first|rw[if_pos (by omega)]|rw[if_neg (by omega)])
    ·intro q hq
     have D:=b8.h q (by rcases hq with e|e|e|e|e|e;exact .inl e;exact .inr (.inl e);exact .inr (.inr (.inl e));exact .inr (.inr (.inr (.inl e)));exact .inr (.inr (.inr (.inr (.inl e))));exact .inr (.inr (.inr (.inr (.inr e)))));have h6:=cF.h.lt q hq;rw[tg];repeat(first|rw[if_pos (by omega)]|rw[if_neg (by omega)])
    ·intro q hq;cases hq
    ·intro q hq
     have D:=eN.h q hq;rw[tg];repeat(first|rw[if_pos (by omega)]|rw[if_neg (by omega)])
    ·intro q D h6
     have fq:w3.heap.size<=q:=D;have fx:q<w5.heap.size:=h6;rw[tg];repeat(first|rw[if_pos (by omega)]|rw[if_neg (by omega)])
    ·intro q D _
     rw[tg] at D
     by_cases h6:q=d
     ·omega
     ·rw[if_neg h6] at D
      by_cases h7:q<w0.heap.size
      ·rw[if_pos h7] at D;omega
      ·omega
    ·have:=ay.size;omega
   have ei:Lv (fun q=>q=d) w w6:=by
    have La:Lv (fun q=>q=d\/q=g) w w3:=(((Lv.bL cn.h).cV a2.h).trans d9.h fun q hq=> .inl (.inl hq)).trans a7.h fun q hq=> .inl (.inr hq);refine(La.cV cl).mono fun q hq=>?_;rcases hq with D|D
    ·exact .inl D
    ·right;rw[D,EG.h];exact af _
   have ej:x.ln=0/\x.k=0/\x.dl=[]:=by rw[ex];exact⟨rfl,rfl,by simp⟩
   have ek:∀q,q<w.heap.size->q≠d->tag q=0:=fun q D h6=>by rw[tg,if_neg h6,if_pos (by omega)]
   rw[ex] at ax;obtain⟨eW,el,cm,eY⟩:=mh ef ei ej ek;clear ef ei ej ek ex tg
   change w6=w5.alloc (.cells #[.string (str P.code), .slice bE P.E.length bH,Iz P.tick,Iz P.low,Iz P.high,Iz P.wide,Iz P.rule,Iz P.top,Iz P.least,Iz P.part, .slice bQ P.settle.length bR, Pz j, Pz gg, .slice A8 L8.length c8,Iz 0, .slice none 0 0] 148) at ax
   rw[<-ax,<-bU];clear ax bU;go_wp2_with fail
   go_loopw [50] (fun v wr=>v= Iz 0/\wr=w6) (fun _ _=>0)
   case atStart=>exact⟨rfl,rfl⟩
   case round=>
    obtain⟨rfl,rfl⟩:=hrel;go_wp2_with fail
    go_ret2
    exact⟨ge,x,tag,rfl,eW.h,cm.h.1,cm.h.2.1,cm.h.2.2,eY.h,el.h⟩
  exact dJ
 exact dJ
end Go.Proofs.YtbaaheidifacaaaGreat
