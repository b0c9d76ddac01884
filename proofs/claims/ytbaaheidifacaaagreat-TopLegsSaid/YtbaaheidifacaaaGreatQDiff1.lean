import Derived.Test.YtbaaheidifacaaaGreatQTameX
import Derived.Test.YtbaaheidifacaaaGreatQIds
import Derived.Laws.StructEq
set_option linter.defProp false
set_option linter.unusedVariables false
set_option linter.unusedSimpArgs false
set_option maxRecDepth 100000
set_option maxHeartbeats 12800000
namespace Go.Proofs.YtbaaheidifacaaaGreat
variable {A:Option Addr} {B g k m n:Nat} {C:zt} {F' Gs R:Nat→Prop} {L:List Dx} {P:PD} {W:World→Prop} {a b w:World} {cs:Array Value} {l:List bN} {x:mE} {xs:List mE}
open Go.RowKit
theorem Tryz.SU:(Tryz.prog.info? 305).map (fun i=>(i.zero,i.size,i.bytes))=some (some (.agg #[Iz 0,Iz 0,Iz 0,Iz 0,Iz 0,Iz 0, .bool false]),7,56):=by kernel_rfl
theorem WM:kA Tryz.prog 102 305 (.agg #[Iz 0,Iz 0,Iz 0,Iz 0,Iz 0,Iz 0, .bool false]) 7 56:=
 ⟨Tryz.underlying102,let ⟨i,h,D,I,J⟩:=info_parts Tryz.SU;⟨i,h,D,I,J⟩,rfl,ae,ae⟩
def zK (w:World) (d k:Nat):Prop:=
 ∃(q:Int) (A:Option Addr) (c:Nat) (vs:List Value),aE w d 260 #[Iz q, .slice A k c]∧w.ownsRow d 305 7 (.slice A k c) k vs∧(Value.slice A k c).ownBlock≠some d
theorem zK.below {w':World} {d:Nat} (h:zK w d k) (D:Bz w w'):zK w' d k:=by
 obtain⟨q,A,c,vs,I,J,O⟩:=h;exact⟨q,A,c,vs,I.below D,bP J D,O⟩
theorem zK.lt {d:Nat} (h:zK w d k):d<w.heap.size:=by
 obtain⟨q,A,c,vs,D,_⟩:=h;exact D.lt
theorem pZ (k:Nat) (ys:List mE):je k [] ys=ys.length:=by unfold je;rfl
theorem wY (k:Nat) (x:mE) (xs:List mE):je k (x::xs) []=xs.length+1:=by unfold je je.aux;rfl
theorem zw (k:Nat) (x:mE) (xs:List mE) (y:mE) (ys:List mE):je k (x::xs) (y::ys)=
  if bz k x.ag y.ag=true then 1+je k xs (y::ys) else if bz k y.ag x.ag=true then 1+je k (x::xs) ys else (if VV x y=true then 0 else 1)+je k xs ys:=by
 have e:∀zs,je k (x::xs) zs=je.aux k x xs zs:=fun zs=>by conv=>lhs;unfold je
 rw[e,e]
 conv=>lhs;unfold je.aux
theorem NO (D a1 I J b1 O:Int) (w:World):(binOp .neq 75 (.agg #[Iz D,Iz a1,Iz I]) (.agg #[Iz J,Iz b1,Iz O])).run Tryz.prog w= .ok (.bool (!VV ⟨D,a1,I⟩ ⟨J,b1,O⟩)) w:=by
 rw[run_neq_struct];have h1:Tryz.prog.underlying 75=some (.struct (Tryz.prog.fieldsOf 75)):=by kernel_rfl
 rw[run_equalIn_agg w 9999 75 _ _ h1 (by kernel_rfl)];have i0:=run_equalIn_int (P:=Tryz.prog) w 9998 2 .i64 .i64 D J Tryz.underlying2;have i1:=run_equalIn_int (P:=Tryz.prog) w 9998 2 .i64 .i64 a1 b1 Tryz.underlying2;have i2:=run_equalIn_int (P:=Tryz.prog) w 9998 2 .i64 .i64 I O Tryz.underlying2;have p0:∀(x y z:Value),(part 2 #[x,y,z] 0).run Tryz.prog w= .ok x w:=fun x y z=>by kernel_rfl
 have p1:∀(x y z:Value),(part 2 #[x,y,z] 1).run Tryz.prog w= .ok y w:=fun x y z=>by kernel_rfl
 have p2:∀(x y z:Value),(part 2 #[x,y,z] 2).run Tryz.prog w= .ok z w:=fun x y z=>by kernel_rfl
 unfold VV;simp[Program.fieldsOf,Tryz.underlying75,Op.eqFields,Sem.run_bind,p0,p1,p2,i0,i1,i2,Result.andThen]
 by_cases e0:D=J<;>by_cases e1:a1=b1<;>by_cases e2:I=O<;>simp[e0,e1,e2]
def fP (w w':World):Prop:=∀(j:Nat) (cs:Array Value) (T:TypeId),w.heap[j]?=some (Obj.cells cs T (0,0))→T≠305→T≠260→w'.heap[j]?=w.heap[j]?
theorem fP.refl (w:World):fP w w:=fun _ _ _ _ _ _=>rfl
theorem fP.trans {c:World} (h:fP a b) (h':fP b c):fP a c:=fun j cs T D I J=>by
 have O:=h j cs T D I J;exact(h' j cs T (O.trans D) I J).trans O
theorem fP.bL (h:Bz a b):fP a b:=fun j cs T D _ _=>h.block j (aU.1 D).1
theorem fP.D (h:fP a b) {T:TypeId} (hg:aE a g T cs) (I:T≠305) (J:T≠260):aE b g T cs:=(h g cs T hg I J).trans hg
theorem jS (d k:Nat) (inst side p q n:Int) (im:Bool) (w:World) (h:zK w d k) (hk:k<=1000000):
  Wz 178 #[Pz d,Iz inst,Iz side, .agg #[Iz p,Iz q,Iz n], .bool im] w fun e w'=>e= .returned (.tuple #[])/\zK w' d (k+1)/\Below d w w'/\fP w w':=by
 obtain⟨sq,A,c,vs,hD,bh,b8⟩:=h;obtain⟨w0,a8⟩:=Zn (w.alloc (.cells #[Iz p,Iz q,Iz n] 75));obtain⟨gl,ba⟩:=Zn w.heap.size;have E0:=Zq a8 ba;have B0:=Zw a8;have D0:=hD.below B0;have b9:d<w.heap.size:=hD.lt;have c0:=D0.cell;have f0:=D0.frozen;have a2:=bP bh B0;have bp:d≠gl:=ae;obtain⟨HE,HD,cd,bQ,cf,d4,cH⟩:=yY E0 D0 a2 b8 B0 ba b9;clear hD bh b8 E0 B0 D0 a2 b9
 go_enter Tryz.func178,Tryz.ntmps178
 go_upto_region 1 with(fail)
 rw[<-a8,<-ba];clear a8 ba
 go_upto_region 2 with(fail)
 obtain⟨s1,ck⟩:=Zn (wrap64 (sq+1));obtain⟨D,a5⟩:=Zn (w0.setCell ⟨d,0,none⟩ (Iz s1));rw[<-ck,<-a5];have D1:=HD.h.set 0 (Iz s1);rw[<-a5] at D1;have a6:aE D d 260 #[Iz s1, .slice A k c]:=D1;have a0:∀j,j≠d->D.heap[j]?=w0.heap[j]?:=fun j O=>a5▸av _ _ _ _ O;have E1:aE D gl 75 #[Iz p,Iz q,Iz n]:=HE.block (a0 gl (Ne.symm bp));have ax:D.ownsRow d 305 7 (.slice A k c) k vs:=aX cd fun j O=>a0 j fun e=>bQ (by rw[O,e]);have B1:Below d w D:=a5▸(cf.mono (po cH)).setCell (p:=⟨d,0,none⟩) (af _) _;obtain⟨Fs,bb⟩:=Zn (fun j=>j=d\/j=gl:Nat->Prop);have md:Fs d:=bb▸.inl rfl;have ml:Fs gl:=bb▸.inr rfl;have k0:∀u,aI Fs D.drew u->Cz u d 0 (Iz s1):=fun u hu=>(hu.cell md).trans (a6.cell 0);have k1:∀u,aI Fs D.drew u->Cz u d 1 (.slice A k c):=fun u hu=>(hu.cell md).trans (a6.cell 1);have l0:∀u,aI Fs D.drew u->Cz u gl 0 (Iz p):=fun u hu=>(hu.cell ml).trans (E1.cell 0);have l1:∀u,aI Fs D.drew u->Cz u gl 1 (Iz q):=fun u hu=>(hu.cell ml).trans (E1.cell 1);have l2:∀u,aI Fs D.drew u->Cz u gl 2 (Iz n):=fun u hu=>(hu.cell ml).trans (E1.cell 2);have bt:d<D.heap.size:=a6.lt;have bE:gl<D.heap.size:=E1.lt;have cl:(Value.slice A k c).ownBlock≠some gl:=fun e=>by
  obtain⟨cur,hc⟩:=bY ax e;exact jY E1 hc (by decide) rfl
 have cm:fP w D:=(fP.bL cf).trans fun j cs T h1 h2 h3=>a0 j fun e=>jY HD h1 (fun e'=>h3 e'.symm) e;have cQ:=ao cm;clear cm;obtain⟨cS,bR,cT,bU,cX,a7,cn⟩:=yY a6 ax B1 bb cl bt bE;clear a5 ck D1 a6 a0 E1 ax B1 bb md ml c0 f0 bp cl bt bE;refine bx (R:=aI Fs) 23 [19,20,23] [0,1,2,3,4,5,6,7,8,9,10,11,12,13,14,15,16,17,18,19,20,21,22,23] (by kernel_rfl) (aI.tr _) (aI.J _) (by kernel_rfl) (fun _ _ _ _ _ h=>h) ?_;refine Yt ?_;clear k0 k1 l0 l1 l2;refine Ym fun K hK=>?_;refine Yo hK ((fun j O=>(au (aa D.drew.heap.size D.drew) _).block j (by rw[bU.h] at O;rcases O with rfl|rfl;exact a7;exact cn))) ?_;obtain⟨w2,bc⟩:=Zn ((D.alloc (.cells #[Iz s1,Iz inst,Iz side,Iz p,Iz q,Iz n, .bool im] 305)).drew);obtain⟨gm,bV⟩:=Zn D.heap.size;have b2:Bz D w2:=bc▸aS (au (aa _ _) _);have C2:Cells w2 (some ⟨gm,0,none⟩) [Iz s1,Iz inst,Iz side,Iz p,Iz q,Iz n, .bool im]:=bc▸bV▸(Cells.lit D #[Iz s1,Iz inst,Iz side,Iz p,Iz q,Iz n, .bool im] _).drew;have ay:=bP bR b2;have dc:d<=w2.heap.size:=jE b2.size a7.h;have ct:∀j,Fs j->j<w2.heap.size/\(Value.slice A k c).ownBlock≠some j:=fun j O=>by
  rw[bU.h] at O;have:=b2.size;rcases O with rfl|rfl
  ·exact⟨cA a7.h,bQ⟩
  ·exact⟨cA cn.h,cX⟩
 obtain⟨bf,cv,b0⟩:=fY b2 ct ay;rw[<-bc,<-bV];clear bc bV b2 ct;refine Zm fun K hK=>?_;refine fZ WM ay (A:=some ⟨gm,0,none⟩) (m:=1) (c:=1) (news:=[Iz s1,Iz inst,Iz side,Iz p,Iz q,Iz n, .bool im]) _ _ rfl rfl rfl rfl bT C2 (by intro u hu;simp at hu;rcases hu with rfl|rfl|rfl|rfl|rfl|rfl|rfl<;>rfl) ae dc (k+1) _ rfl rfl ?_;intro A3 c3 w3 I;have b7:∀j,Fs j->w3.heap[j]?=w2.heap[j]?:=fun j O=>I.grown.block j (cv j O).1 fun e=>(cv j O).2 e.symm;have hdd:Fs d:=bU.h▸.inl rfl;have D3:aE w3 d 260 #[Iz s1, .slice A k c]:=(cS.below bf).block (b7 d hdd);have k3:=D3.cell;have f3:=D3.frozen;obtain⟨cF,dp,dS⟩:=fY D3 I b7;clear D3 I b7 hdd ay C2;refine Yo hK ((fun j O=>dS j O)) ?_;refine Yt ?_;refine Zl fun K hK=>?_;go_simp;refine Yl hK ?_;refine aT ?_;go_wp2_with fail
 go_end0
 have I:=dp.h;have B3:Below d w w3:=I.below d w (af _) (cT.trans (bf.mono (po a7)));have bH:(Value.slice A3 (k+1) c3).ownBlock≠some d:=fun e=>by
  rcases I.jV with h1|h1
  ·rw[h1] at e;exact bQ e
  ·rw[h1] at e
   have e':w2.heap.size=d:=by injection e
   have:=a7.h;have:=bf.h.size;omega
 have dT:fP w2 w3:=fun j cs T h1 h2 h3=>I.grown.block j (aU.1 h1).1 fun e=>by
  obtain⟨cur,hc⟩:=bY b0 e.symm;rw[h1] at hc;injection hc with hc;injection hc with _ h4 _;exact h2 h4
 have d2:fP w3 (w3.setCell ⟨d,1,none⟩ (.slice A3 (k+1) c3)):=fun j cs T h1 h2 h3=>av _ _ _ _ fun e=>by
  have e':j=d:=e;exact jY cF h1 (fun e'=>h3 e'.symm) e'
 have d3:=((cQ.trans (fP.bL bf)).trans dT).trans d2;refine⟨rfl,⟨s1,A3,c3,_,cF.set 1 _,aX I.own fun j O=>av _ _ _ _ fun e=>bH (by have e':j=d:=e;rw[O,e']),bH⟩,B3.setCell (p:=⟨d,1,none⟩) (af _) _,d3⟩
def VW (a b:ir):Bool:=a.kind==b.kind && a.id==b.id && a.inst==b.inst && a.side==b.side && a.ag==b.ag && a.aw==b.aw && a.left==b.left && a.fy==b.fy
theorem UP {a b:ir}:VW a b=true↔a=b:=by
 obtain⟨D,a1,I,a3,a4,J,O,a7⟩:=a;obtain⟨b0,b1,b2,b3,b4,b5,b6,b7⟩:=b;unfold VW;simp only[dv,beq_iff_eq,ir.mk.injEq,and_assoc]
theorem WN (a:ir):VW a a=true:=UP.2 rfl
theorem CV (a0 a1 a2 a3 a4 a5 a6 a7 b0 b1 b2 b3 b4 b5 b6 b7:Int) (w:World):(Op.eqFields 9999 #[Iz a0,Iz a1,Iz a2,Iz a3,Iz a4,Iz a5,Iz a6,Iz a7] #[Iz b0,Iz b1,Iz b2,Iz b3,Iz b4,Iz b5,Iz b6,Iz b7] (Tryz.prog.fieldsOf 40).toList).run Tryz.prog w= .ok (VW ⟨a0,a1,a2,a3,a4,a5,a6,a7⟩ ⟨b0,b1,b2,b3,b4,b5,b6,b7⟩) w:=by
 have i0:=run_equalIn_int (P:=Tryz.prog) w 9998 3 .i64 .i64 a0 b0 Tryz.underlying3;have i1:=run_equalIn_int (P:=Tryz.prog) w 9998 2 .i64 .i64 a1 b1 Tryz.underlying2;have i2:=run_equalIn_int (P:=Tryz.prog) w 9998 3 .i64 .i64 a2 b2 Tryz.underlying3;have i3:=run_equalIn_int (P:=Tryz.prog) w 9998 3 .i64 .i64 a3 b3 Tryz.underlying3;have i4:=run_equalIn_int (P:=Tryz.prog) w 9998 2 .i64 .i64 a4 b4 Tryz.underlying2;have i5:=run_equalIn_int (P:=Tryz.prog) w 9998 2 .i64 .i64 a5 b5 Tryz.underlying2;have i6:=run_equalIn_int (P:=Tryz.prog) w 9998 2 .i64 .i64 a6 b6 Tryz.underlying2;have i7:=run_equalIn_int (P:=Tryz.prog) w 9998 29 .i64 .i64 a7 b7 Tryz.underlying29;have p0:∀(D I J O x4 x5 x6 x7:Value),(part 3 #[D,I,J,O,x4,x5,x6,x7] 0).run Tryz.prog w= .ok D w:=fun D I J O x4 x5 x6 x7=>by kernel_rfl
 have p1:∀(D I J O x4 x5 x6 x7:Value),(part 2 #[D,I,J,O,x4,x5,x6,x7] 1).run Tryz.prog w= .ok I w:=fun D I J O x4 x5 x6 x7=>by kernel_rfl
 have p2:∀(D I J O x4 x5 x6 x7:Value),(part 3 #[D,I,J,O,x4,x5,x6,x7] 2).run Tryz.prog w= .ok J w:=fun D I J O x4 x5 x6 x7=>by kernel_rfl
 have p3:∀(D I J O x4 x5 x6 x7:Value),(part 3 #[D,I,J,O,x4,x5,x6,x7] 3).run Tryz.prog w= .ok O w:=fun D I J O x4 x5 x6 x7=>by kernel_rfl
 have p4:∀(D I J O x4 x5 x6 x7:Value),(part 2 #[D,I,J,O,x4,x5,x6,x7] 4).run Tryz.prog w= .ok x4 w:=fun D I J O x4 x5 x6 x7=>by kernel_rfl
 have p5:∀(D I J O x4 x5 x6 x7:Value),(part 2 #[D,I,J,O,x4,x5,x6,x7] 5).run Tryz.prog w= .ok x5 w:=fun D I J O x4 x5 x6 x7=>by kernel_rfl
 have p6:∀(D I J O x4 x5 x6 x7:Value),(part 2 #[D,I,J,O,x4,x5,x6,x7] 6).run Tryz.prog w= .ok x6 w:=fun D I J O x4 x5 x6 x7=>by kernel_rfl
 have p7:∀(D I J O x4 x5 x6 x7:Value),(part 29 #[D,I,J,O,x4,x5,x6,x7] 7).run Tryz.prog w= .ok x7 w:=fun D I J O x4 x5 x6 x7=>by kernel_rfl
 unfold VW;simp only[Program.fieldsOf,Tryz.underlying40,Op.eqFields,Sem.run_bind,p0,p1,p2,p3,p4,p5,p6,p7,i0,i1,i2,i3,i4,i5,i6,i7,Result.andThen]
 by_cases e0:a0=b0
 ·subst e0
  by_cases e1:a1=b1
  ·subst e1
   by_cases e2:a2=b2
   ·subst e2
    by_cases e3:a3=b3
    ·subst e3
     by_cases e4:a4=b4
     ·subst e4
      by_cases e5:a5=b5
      ·subst e5
       by_cases e6:a6=b6
       ·subst e6
        by_cases e7:a7=b7
        ·subst e7
         simp[Op.eqFields,Sem.run_bind,p0,p1,p2,p3,p4,p5,p6,p7,i0,i1,i2,i3,i4,i5,i6,i7,Result.andThen]
        ·simp[Op.eqFields,Sem.run_bind,p0,p1,p2,p3,p4,p5,p6,p7,i0,i1,i2,i3,i4,i5,i6,i7,Result.andThen,e7]
       ·simp[Op.eqFields,Sem.run_bind,p0,p1,p2,p3,p4,p5,p6,p7,i0,i1,i2,i3,i4,i5,i6,i7,Result.andThen,e6]
      ·simp[Op.eqFields,Sem.run_bind,p0,p1,p2,p3,p4,p5,p6,p7,i0,i1,i2,i3,i4,i5,i6,i7,Result.andThen,e5]
     ·simp[Op.eqFields,Sem.run_bind,p0,p1,p2,p3,p4,p5,p6,p7,i0,i1,i2,i3,i4,i5,i6,i7,Result.andThen,e4]
    ·simp[Op.eqFields,Sem.run_bind,p0,p1,p2,p3,p4,p5,p6,p7,i0,i1,i2,i3,i4,i5,i6,i7,Result.andThen,e3]
   ·simp[Op.eqFields,Sem.run_bind,p0,p1,p2,p3,p4,p5,p6,p7,i0,i1,i2,i3,i4,i5,i6,i7,Result.andThen,e2]
  ·simp[Op.eqFields,Sem.run_bind,p0,p1,p2,p3,p4,p5,p6,p7,i0,i1,i2,i3,i4,i5,i6,i7,Result.andThen,e1]
 ·simp[Op.eqFields,Sem.run_bind,p0,p1,p2,p3,p4,p5,p6,p7,i0,i1,i2,i3,i4,i5,i6,i7,Result.andThen,e0]
theorem UQ (D a1 I a3 a4 J O a7 b0 b1 b2 b3 b4 b5 b6 b7:Int) (w:World):(binOp .neq 40 (.agg #[Iz D,Iz a1,Iz I,Iz a3,Iz a4,Iz J,Iz O,Iz a7]) (.agg #[Iz b0,Iz b1,Iz b2,Iz b3,Iz b4,Iz b5,Iz b6,Iz b7])).run Tryz.prog w= .ok (.bool (!VW ⟨D,a1,I,a3,a4,J,O,a7⟩ ⟨b0,b1,b2,b3,b4,b5,b6,b7⟩)) w:=by
 rw[run_neq_struct];have h1:Tryz.prog.underlying 40=some (.struct (Tryz.prog.fieldsOf 40)):=by kernel_rfl
 rw[run_equalIn_agg w 9999 40 _ _ h1 (by kernel_rfl),CV];rfl
theorem UR (D a1 I a3 a4 J O a7 b0 b1 b2 b3 b4 b5 b6 b7:Int) (w:World):(binOp .eql 40 (.agg #[Iz D,Iz a1,Iz I,Iz a3,Iz a4,Iz J,Iz O,Iz a7]) (.agg #[Iz b0,Iz b1,Iz b2,Iz b3,Iz b4,Iz b5,Iz b6,Iz b7])).run Tryz.prog w= .ok (.bool (VW ⟨D,a1,I,a3,a4,J,O,a7⟩ ⟨b0,b1,b2,b3,b4,b5,b6,b7⟩)) w:=by
 rw[run_eql_struct];have h1:Tryz.prog.underlying 40=some (.struct (Tryz.prog.fieldsOf 40)):=by kernel_rfl
 rw[run_equalIn_agg w 9999 40 _ _ h1 (by kernel_rfl),CV];rfl
def bN.row (c:bN):List Value:=c.cells.toList
theorem bN.Dd (c:bN):c.row.length=9:=rfl
def lF (l:List bN):List Value:=l.flatMap bN.row
theorem GY (l:List bN):(lF l).length=l.length*9:=dX bN.Dd l
theorem Mv (h:Cells w A (lF l)) (hm:m<l.length):
  ∃b o q,A=some ⟨b,o,none⟩/\b<w.heap.size/\l[m]?=some q/\∀j v,j<9->q.row[j]?=some v->w.cell? ⟨b,o+(m*9+j),none⟩=some v:=by
 have I:=GY l;have D:lF l≠[]:=by intro e;rw[e] at I;simp at I;omega
 obtain⟨b,o,rfl,J,hc⟩:=h D;have hr:l[m]?=some l[m]:=aj hm;exact⟨b,o,l[m],rfl,J,hr,fun j v O hv=>hc _ _ ((ig bN.Dd j O hr).trans hv)⟩
theorem J0 {m:Mk} {id:Int} {x:Nat} {ag aw time:Int}:(iE P m id x k ag aw time).1.un<=m.un+1:=by
 unfold iE;simp only
 repeat' split
 all_goals(simp only;omega)
theorem Yh (P:PD) (m:Mk) (c:bN):(pC P m c).1.un<=m.un+1:=by
 unfold pC
 split
 ·exact qX _
 ·split
  ·unfold lW
   simp only
   repeat' split
   all_goals first
    |exact qX _
    |exact J0
  ·split
   ·exact qX _
   ·split
    ·unfold replaceM
     simp only
     repeat' split
     all_goals first
      |exact qX _
      |exact J0 (m:=(dG m c.id _ _ _ _).1)
    ·split
     ·exact qX _
     ·exact qX _
structure V0 (P:PD) (m:Mk):Prop where
 f:pn P m.S
 su:∀id,fI m.S id→m.used id=true
theorem jW.V2 {m:Mk} (h:jW w Gs R g P m C):V0 P m:=⟨h.st.fine,h.su⟩
theorem jW.ZD {m:Mk} (h:jW w Gs R g P m C):∀j,j=g\/j=C.ub\/Gs j\/R j->j<w.heap.size:=by
 rintro j (rfl|rfl|I|I)
 ·exact h.b.D.lt
 ·exact h.us.lt
 ·exact h.gl j I
 ·exact h.rl j I
theorem Tg {l:List ir} (h:Cells w A (fC l)) (hm:m<l.length):
  ∃b o q,A=some ⟨b,o,none⟩/\b<w.heap.size/\l[m]?=some q/\∀j v,j<8->q.cells[j]?=some v->w.cell? ⟨b,o+(m*8+j),none⟩=some v:=by
 have I:=iL l;have D:fC l≠[]:=by intro e;rw[e] at I;simp at I;omega
 obtain⟨b,o,rfl,J,hc⟩:=h D;have hr:l[m]?=some l[m]:=aj hm;exact⟨b,o,l[m],rfl,J,hr,fun j v O hv=>hc _ _ ((ig ir.bG j O hr).trans hv)⟩
theorem Aj (h:Cells w A (jO (x::xs))):
  ∃b o,A=some ⟨b,o,none⟩/\b<w.heap.size/\w.cell? ⟨b,o,none⟩=some (Iz x.ag)/\w.cell? ⟨b,o+1,none⟩=some (Iz x.aw)/\w.cell? ⟨b,o+2,none⟩=some (Iz x.count):=by
 obtain⟨b,o,I,J,D⟩:=h (by simp[jO,mE.cells]);exact⟨b,o,I,J,by simpa using D 0 _ rfl,D 1 _ rfl,D 2 _ rfl⟩
theorem vA {c:Nat} (h:∀u,W u->Cells u A (jO (x::xs))) (hn:n=xs.length+1) (hc:n<=c):
  ∃A' c',(∀u,(Instr.slice 73 (.slice A n c) (some (Iz 1)) none none).run Tryz.prog u= .ok (.slice A' xs.length c') u)/\(∀u,W u->Cells u A' (jO xs))/\xs.length<=c':=by
 refine⟨if c=1 then A else A.map (·.add 3),c - 1,fun u=>?_,fun u hu hx=>?_,ae⟩
 ·have hs:(sizeOf (Tryz.prog.elem 73)).run Tryz.prog u= .ok 3 u:=by kernel_rfl
  rw[run_slice_l u 73 A n c (by kernel_rfl) .i64 1 ae ae,hs];simp only[Result.andThen_ok,sliced];subst hn;simp
 ·have D:xs≠[]:=by rintro rfl;exact hx rfl
  have J:0<xs.length:=iu.2 D;rw[if_neg ae];have I:=(h u hu).drop 3 ((jO (x::xs)).length+3) ae;rw[if_neg (by have:=GO (x::xs);simp at this;omega)] at I;have O:(jO (x::xs)).drop 3=jO xs:=rfl;rw[O] at I;exact I hx
def lenOf (v:Value):Nat:=match v with| .slice _ n _=>n|_=>0
structure YX (w w0 wr:World) (d k kk:Nat) (xs0 ys0 xs ys:List mE) (A1:Option Addr) (n1 c1:Nat) (A2:Option Addr) (n2 c2 j:Nat):Prop where
 e1:n1=xs.length
 e2:n2=ys.length
 m1:n1≤c1
 m2:n2≤c2
 x:∀u,Below d w u→Cells u A1 (jO xs)
 y:∀u,Below d w u→Cells u A2 (jO ys)
 df:zK wr d j
 cnt:j+je kk xs ys=k+je kk xs0 ys0
 lx:xs.length≤xs0.length
 ly:ys.length≤ys0.length
 jm:Below d w wr
 kt:fP w0 wr
 le:d≤w.heap.size
theorem rO (k:Nat):∀(xs ys:List mE),je k xs ys<=xs.length+ys.length
 |[],ys=>by rw[pZ];simp
 |x::xs,[]=>by rw[wY];simp
 |x::xs,y::ys=>by
  have D:=rO k xs (y::ys);have I:=rO k (x::xs) ys;have J:=rO k xs ys;rw[zw];simp only[bI] at*
  repeat' split
  all_goals omega
termination_by xs ys=>xs.length+ys.length
theorem Tu (k:Nat) (xs:List mE):je k xs []=xs.length:=by cases xs with|nil=>rw[pZ]|cons x xs=>rw[wY];rfl
theorem FV (d k kk:Nat) (inst sd:Int) (a b:CT) (w:World) (hk:kk<2) (eK:sd=(kk:Int)+1) (h:zK w d k) (f3:k<=100000) (eV:a.sd.lv.length<=1000) (eW:b.sd.lv.length<=1000) (eL:a.sd.lv.length<=a.c) (eM:b.sd.lv.length<=b.c)
  (ha:∀u,Below d w u->Cells u a.A (jO a.sd.lv)) (hb:∀u,Below d w u->Cells u b.A (jO b.sd.lv)):
  Wz 152 #[Pz d,Iz inst,Iz sd, .agg a.cells.toArray, .agg b.cells.toArray] w fun e w'=>e= .returned (.tuple #[])/\zK w' d (k+jR kk a.sd b.sd)/\Below d w w'/\fP w w':=by
 obtain⟨⟨ba,⟨ap,aq,an⟩,ah⟩,Aa,ca⟩:=a;obtain⟨⟨bb,⟨bp,bq,bn⟩,bh⟩,Ab,cb⟩:=b;simp only at eV eW eL eM ha hb;obtain⟨na,et⟩:=Zn ba.length;obtain⟨nb,eu⟩:=Zn bb.length;have eN:jR kk ⟨ba,⟨ap,aq,an⟩,ah⟩ ⟨bb,⟨bp,bq,bn⟩,bh⟩=je kk ba bb+if VV ⟨ap,aq,an⟩ ⟨bp,bq,bn⟩=true/\ah=bh then 0 else 1:=rfl;obtain⟨T,eT⟩:=Zn (k+jR kk ⟨ba,⟨ap,aq,an⟩,ah⟩ ⟨bb,⟨bp,bq,bn⟩,bh⟩);rw[<-eT];rw[eN] at eT;have HT:=ao eT;clear eT;rw[show CT.cells ⟨⟨ba,⟨ap,aq,an⟩,ah⟩,Aa,ca⟩=[.slice Aa na ca,Iz ap,Iz aq,Iz an, .bool ah] by rw[et];rfl,show CT.cells ⟨⟨bb,⟨bp,bq,bn⟩,bh⟩,Ab,cb⟩=[.slice Ab nb cb,Iz bp,Iz bq,Iz bn, .bool bh] by rw[eu];rfl];obtain⟨w0,eb⟩:=Zn ((w.alloc (.cells #[.slice Aa na ca,Iz ap,Iz aq,Iz an, .bool ah] 77)).alloc (.cells #[.slice Ab nb cb,Iz bp,Iz bq,Iz bn, .bool bh] 77));obtain⟨ga,ew⟩:=Zn w.heap.size;obtain⟨gb,eD⟩:=Zn (ga+1);have B0:Bz w w0:=eb▸au (au (aa _ _) _) _;have GA:aE w0 ga 77 #[.slice Aa na ca,Iz ap,Iz aq,Iz an, .bool ah]:=eb▸ew▸(aE.new w _ _).below (au (aa _ _) _);have GB:aE w0 gb 77 #[.slice Ab nb cb,Iz bp,Iz bq,Iz bn, .bool bh]:=by
  rw[eb,eD,ew];have:=aE.new (w.alloc (.cells #[.slice Aa na ca,Iz ap,Iz aq,Iz an, .bool ah] 77)) #[.slice Ab nb cb,Iz bp,Iz bq,Iz bn, .bool bh] 77;rw[cw] at this;exact this
 have eO:=h.lt;have D0:=h.below B0;have eP:Below d w w0:=B0.mono (po eO);have I0:YX w w0 w0 d k kk ba bb ba bb Aa na ca Ab nb cb k:=⟨et,eu,ae,ae,ha,hb,D0,rfl,af _,af _,eP,fP.refl _,po eO⟩;have eY:∀u,aR w0.drew u->Cz u ga 0 (.slice Aa na ca):=fun u hu=>Yb hu GA.lt (GA.cell 0);have eZ:∀u,aR w0.drew u->Cz u gb 0 (.slice Ab nb cb):=fun u hu=>Yb hu GB.lt (GB.cell 0);obtain⟨e0,e3,eQ,eR,e4,f4,f5,HH⟩:=Dw GA GB I0 eK B0 et eu h;clear GA GB I0 B0 eP D0 eK et eu ha hb eN h eL eM
 go_enter Tryz.func152,Tryz.ntmps152
 go_upto_region 1 with(fail)
 rw[<-eb,<-ew,<-eD];clear eb ew eD;refine Zg [] [0,1,2,3,4,5] ?_;refine Yt ?_;refine aT ?_;clear eY eZ;obtain⟨w1,eE⟩:=Zn w0.drew;rw[<-eE];have e5:Hid (YX w w0 w1 d k kk ba bb ba bb Aa na ca Ab nb cb k):=by
  rw[eE];have hI:=eQ.h;exact ao ⟨hI.e1,hI.e2,hI.m1,hI.m2,hI.x,hI.y,hI.df.below (aS (aa _ _)),hI.cnt,hI.lx,hI.ly,hI.jm.drew,fP.bL (aS (aa _ _)),hI.le⟩
 clear eE eQ;go_wp2_with fail
 go_loopw [10,11] (fun v10 v11 wr=> ∃(xs ys:List mE) (A1:Option Addr) (n1 c1:Nat) (A2:Option Addr) (n2 c2 j:Nat),v10= .slice A1 n1 c1/\v11= .slice A2 n2 c2/\Hid (YX w w0 wr d k kk ba bb xs ys A1 n1 c1 A2 n2 c2 j)) (fun v10 v11 _=>lenOf v10+lenOf v11)
 case atStart=>exact⟨_,_,_,_,_,_,_,_,_,rfl,rfl,e5⟩
 case round=>
  obtain⟨xs,ys,A1,n1,c1,A2,n2,c2,j,rfl,rfl,I⟩:=hrel;have hI:=I.h;have f6:j<=200000:=jE hI.cnt (rO kk ba bb);have f7:n1<=1000:=jE hI.e1 hI.lx;have f8:n2<=1000:=jE hI.e2 hI.ly
  cases xs with
  |nil=>
   obtain rfl:n1=0:=hI.e1
   cases ys with
   |nil=>
    obtain rfl:n2=0:=hI.e2;have A:=hI.kt.D e0.h (by decide) (by decide);have B:=hI.kt.D e3.h (by decide) (by decide);have e6:=A.cell 1;have e7:=A.cell 2;have e9:=A.cell 3;have fa:=A.cell 4;have ff:=B.cell 1;have fi:=B.cell 2;have fk:=B.cell 3;have fq:=B.cell 4;simp at e6 e7 e9 fa ff fi fk fq;obtain⟨z,ez⟩:=Zn (VV ⟨ap,aq,an⟩ ⟨bp,bq,bn⟩);have fx:∀u,(binOp .neq 75 (.agg #[Iz ap,Iz aq,Iz an]) (.agg #[Iz bp,Iz bq,Iz bn])).run Tryz.prog u= .ok (.bool (!z)) u:=fun u=>ez▸NO ap aq an bp bq bn u;have f0:ga<wr.heap.size:=A.lt;have f1:gb<wr.heap.size:=B.lt;have eC:j=k+je kk ba bb:=by have:=hI.cnt;rw[pZ] at this;simpa using this
    obtain⟨HZ,HC⟩:=dF ez eC;clear ez eC hI A B;have eS:fP w wr:=(fP.bL e4.h).trans I.h.kt;have b0:=ao eS;clear eS
    cases z with
    |false=>
     cases ah with
     |false=>
      cases bh with
      |false=>
       go_wp2_with fail;have BX:=fun(u:World) (hu:Bz wr u)=>jS d j inst sd 0 0 0 true u (I.h.df.below hu) ae;refine(BX _ ?_).mono ?_
       ·exact au (aa _ _) _
       rintro e u2⟨rfl,a6,b2,k2⟩;go_wp2_with fail
       go_end0
       refine⟨rfl,by rw[HT.h,<-HZ.h,if_neg bT,<-bg,<-HC.h];exact a6,(I.h.jm.trans (yg ?_ (aF I.h.le I.h.jm.size))).trans b2,(b0.h.trans (fP.bL ?_)).trans k2⟩
       ·exact au (aa _ _) _
       ·exact au (aa _ _) _
      |true=>
       go_wp2_with fail;have BX:=fun(u:World) (hu:Bz wr u)=>jS d j inst sd bp bq bn true u (I.h.df.below hu) ae;refine(BX _ ?_).mono ?_
       ·exact au (aa _ _) _
       rintro e u2⟨rfl,a6,b2,k2⟩;go_wp2_with fail
       go_end0
       refine⟨rfl,by rw[HT.h,<-HZ.h,if_neg bT,<-bg,<-HC.h];exact a6,(I.h.jm.trans (yg ?_ (aF I.h.le I.h.jm.size))).trans b2,(b0.h.trans (fP.bL ?_)).trans k2⟩
       ·exact au (aa _ _) _
       ·exact au (aa _ _) _
     |true=>
      cases bh with
      |false=>
       go_wp2_with fail;have BX:=fun(u:World) (hu:Bz wr u)=>jS d j inst sd 0 0 0 true u (I.h.df.below hu) ae;refine(BX _ ?_).mono ?_
       ·exact au (aa _ _) _
       rintro e u2⟨rfl,a6,b2,k2⟩;go_wp2_with fail
       go_end0
       refine⟨rfl,by rw[HT.h,<-HZ.h,if_neg bT,<-bg,<-HC.h];exact a6,(I.h.jm.trans (yg ?_ (aF I.h.le I.h.jm.size))).trans b2,(b0.h.trans (fP.bL ?_)).trans k2⟩
       ·exact au (aa _ _) _
       ·exact au (aa _ _) _
      |true=>
       go_wp2_with fail;have BX:=fun(u:World) (hu:Bz wr u)=>jS d j inst sd bp bq bn true u (I.h.df.below hu) ae;refine(BX _ ?_).mono ?_
       ·exact au (aa _ _) _
       rintro e u2⟨rfl,a6,b2,k2⟩;go_wp2_with fail
       go_end0
       refine⟨rfl,by rw[HT.h,<-HZ.h,if_neg bT,<-bg,<-HC.h];exact a6,(I.h.jm.trans (yg ?_ (aF I.h.le I.h.jm.size))).trans b2,(b0.h.trans (fP.bL ?_)).trans k2⟩
       ·exact au (aa _ _) _
       ·exact au (aa _ _) _
    |true=>
     cases ah with
     |false=>
      cases bh with
      |false=>
       go_wp2_with fail
       go_end0
       exact⟨rfl,by rw[HT.h,<-HZ.h,if_pos bT,lO,<-HC.h];exact I.h.df,I.h.jm,b0.h⟩
      |true=>
       go_wp2_with fail;have BX:=fun(u:World) (hu:Bz wr u)=>jS d j inst sd bp bq bn true u (I.h.df.below hu) ae;refine(BX _ ?_).mono ?_
       ·exact au (aa _ _) _
       rintro e u2⟨rfl,a6,b2,k2⟩;go_wp2_with fail
       go_end0
       refine⟨rfl,by rw[HT.h,<-HZ.h,if_neg bT,<-bg,<-HC.h];exact a6,(I.h.jm.trans (yg ?_ (aF I.h.le I.h.jm.size))).trans b2,(b0.h.trans (fP.bL ?_)).trans k2⟩
       ·exact au (aa _ _) _
       ·exact au (aa _ _) _
     |true=>
      cases bh with
      |false=>
       go_wp2_with fail;have BX:=fun(u:World) (hu:Bz wr u)=>jS d j inst sd 0 0 0 true u (I.h.df.below hu) ae;refine(BX _ ?_).mono ?_
       ·exact au (aa _ _) _
       rintro e u2⟨rfl,a6,b2,k2⟩;go_wp2_with fail
       go_end0
       refine⟨rfl,by rw[HT.h,<-HZ.h,if_neg bT,<-bg,<-HC.h];exact a6,(I.h.jm.trans (yg ?_ (aF I.h.le I.h.jm.size))).trans b2,(b0.h.trans (fP.bL ?_)).trans k2⟩
       ·exact au (aa _ _) _
       ·exact au (aa _ _) _
      |true=>
       go_wp2_with fail
       go_end0
       exact⟨rfl,by rw[HT.h,<-HZ.h,if_pos bT,lO,<-HC.h];exact I.h.df,I.h.jm,b0.h⟩
   |cons y ys=>
    have eU:0<n2:=by have:=hI.e2;simp at this;omega
    clear hI;have i2:((n2:Int)==0)=false:=iW
    go_upto_region 6 with(fail)
    refine Zg [17] [0,1,2,3,4,5,6,7,8,9,10,11,12,13,14,15,16,17,18,19,20] ?_;refine Yt ?_;refine aT ?_
    go_upto_region 9 with(fail)
    refine Zg [13] [0,1,2,3,4,5,6,7,8,9,10,11,12,13,14,15] ?_;refine Yt ?_;refine aT ?_;obtain⟨u1,bc⟩:=Zn wr.drew.drew;rw[<-bc];have dc:Bz wr u1:=bc▸aS (aS (aa _ _));have O:=ao dc;have eA:Hid (Below d w u1):=ao (I.h.jm.trans (dc.mono (aF I.h.le I.h.jm.size)));clear bc dc;obtain⟨a2,bH,ey,ax,b7,b8,b9⟩:=Aj (I.h.y u1 eA.h);obtain⟨ed,ef,d3,cd,bf⟩:=vA (n:=n2) (c:=c2) I.h.y I.h.e2 I.h.m2;obtain⟨dp,dS⟩:=Zn ys.length;rw[<-dS] at d3 bf;have cf:dp<n2:=by have:=I.h.e2;simp at this;omega
    obtain⟨ck,cl,cm,cn⟩:=mh cd bf dS cf;clear cd bf dS cf;rw[ey] at d3⊢;clear ey;go_wp2_with fail;refine(jS d j inst sd y.ag y.aw y.count false u1 (I.h.df.below O.h) ae).mono ?_;rintro e ut⟨rfl,a6,b2,k2⟩;obtain⟨bR,bU,bV⟩:=fY a6 b2 k2;clear a6 b2 k2;go_wp2_with fail;go_roundw
    case rel=>
     refine⟨[],ys,_,_,_,ed,dp,ef,j+1,rfl,rfl,ao ⟨I.h.e1,cm.h,I.h.m1,cl.h,I.h.x,ck.h,bR.h,?_,I.h.lx,by have:=I.h.ly;simp at this;omega,(I.h.jm.trans (O.h.mono (aF I.h.le I.h.jm.size))).trans bU.h,(I.h.kt.trans (fP.bL O.h)).trans bV.h,I.h.le⟩⟩;have hc:=I.h.cnt;rw[pZ,bI] at hc;rw[pZ];omega
    case measure=>have:=cn.h;simp[lenOf];omega
  |cons x xs=>
   have f2:0<n1:=by have:=hI.e1;simp at this;omega
   cases ys with
   |nil=>
    obtain rfl:n2=0:=hI.e2;clear hI;have i1:((n1:Int)==0)=false:=iW
    go_upto_region 6 with(fail)
    refine Zg [17] [0,1,2,3,4,5,6,7,8,9,10,11,12,13,14,15,16,17,18,19,20] ?_;refine Yt ?_;refine aT ?_;obtain⟨u1,bc⟩:=Zn wr.drew;rw[<-bc];have dc:Bz wr u1:=bc▸aS (aa _ _);have O:=ao dc;have eA:Hid (Below d w u1):=ao (I.h.jm.trans (dc.mono (aF I.h.le I.h.jm.size)));clear bc dc;obtain⟨a5,bQ,ex,ay,ct,cv,cF⟩:=Aj (I.h.x u1 eA.h);obtain⟨eg,ei,d4,cH,bt⟩:=vA (n:=n1) (c:=c1) I.h.x I.h.e1 I.h.m1;obtain⟨dT,d2⟩:=Zn xs.length;rw[<-d2] at d4 bt;have cQ:dT<n1:=by have:=I.h.e1;simp at this;omega
    obtain⟨cS,cT,cX,c0⟩:=mh cH bt d2 cQ;clear cH bt d2 cQ;rw[ex] at d4⊢;clear ex;go_wp2_with fail;refine(jS d j inst sd x.ag 0 0 false u1 (I.h.df.below O.h) ae).mono ?_;rintro e ut⟨rfl,a6,b2,k2⟩;obtain⟨bR,bU,bV⟩:=fY a6 b2 k2;clear a6 b2 k2;go_wp2_with fail;go_roundw
    case rel=>
     refine⟨xs,[],eg,dT,ei,_,_,_,j+1,rfl,rfl,ao ⟨cX.h,I.h.e2,cT.h,I.h.m2,cS.h,I.h.y,bR.h,?_,by have:=I.h.lx;simp at this;omega,I.h.ly,(I.h.jm.trans (O.h.mono (aF I.h.le I.h.jm.size))).trans bU.h,(I.h.kt.trans (fP.bL O.h)).trans bV.h,I.h.le⟩⟩;have hc:=I.h.cnt;rw[wY] at hc;rw[Tu];omega
    case measure=>have:=c0.h;simp[lenOf];omega
   |cons y ys=>
    have eU:0<n2:=by have:=hI.e2;simp at this;omega
    clear hI;have i1:((n1:Int)==0)=false:=iW;have i2:((n2:Int)==0)=false:=iW;obtain⟨a5,bQ,ex,ay,d5,d6,d7⟩:=Aj (I.h.x wr I.h.jm);obtain⟨a2,bH,ey,ax,d8,d9,ea⟩:=Aj (I.h.y wr I.h.jm);have a7:Hid (Bz wr wr):=ao (aa _ _);obtain⟨z,ez⟩:=Zn (bz kk x.ag y.ag);obtain⟨z2,eF⟩:=Zn (bz kk y.ag x.ag);obtain⟨z3,eG⟩:=Zn (VV x y);have fx:∀u,(binOp .neq 75 (.agg #[Iz x.ag,Iz x.aw,Iz x.count]) (.agg #[Iz y.ag,Iz y.aw,Iz y.count])).run Tryz.prog u= .ok (.bool (!z3)) u:=fun u=>eG▸NO x.ag x.aw x.count y.ag y.aw y.count u;have bE:=I.h.cnt;rw[zw,<-ez,<-eF,<-eG] at bE;obtain⟨eB,fz,fH⟩:=fY bE ez eF;clear ez eF eG bE;obtain⟨eg,ei,d4,cH,bt⟩:=vA (n:=n1) (c:=c1) I.h.x I.h.e1 I.h.m1;obtain⟨dT,d2⟩:=Zn xs.length;rw[<-d2] at d4 bt;have cQ:dT<n1:=by have:=I.h.e1;simp at this;omega
    obtain⟨cS,cT,cX,c0⟩:=mh cH bt d2 cQ;clear cH bt d2 cQ;obtain⟨ed,ef,d3,cd,bf⟩:=vA (n:=n2) (c:=c2) I.h.y I.h.e2 I.h.m2;obtain⟨dp,dS⟩:=Zn ys.length;rw[<-dS] at d3 bf;have cf:dp<n2:=by have:=I.h.e2;simp at this;omega
    obtain⟨ck,cl,cm,cn⟩:=mh cd bf dS cf;clear cd bf dS cf;subst ex;subst ey;have ej:∀v,aR wr.drew v->Cz v a5 bQ (Iz x.ag):=fun v hv=>Yb hv (aA ay a7.h.size) (Yd (a7.h.block a5 ay) d5);have ek:∀v,aR wr.drew v->Cz v a5 (bQ+1) (Iz x.aw):=fun v hv=>Yb hv (aA ay a7.h.size) (Yd (a7.h.block a5 ay) d6);have el:∀v,aR wr.drew v->Cz v a5 (bQ+2) (Iz x.count):=fun v hv=>Yb hv (aA ay a7.h.size) (Yd (a7.h.block a5 ay) d7);have eo:∀v,aR wr.drew v->Cz v a2 bH (Iz y.ag):=fun v hv=>Yb hv (aA ax a7.h.size) (Yd (a7.h.block a2 ax) d8);have ep:∀v,aR wr.drew v->Cz v a2 (bH+1) (Iz y.aw):=fun v hv=>Yb hv (aA ax a7.h.size) (Yd (a7.h.block a2 ax) d9);have er:∀v,aR wr.drew v->Cz v a2 (bH+2) (Iz y.count):=fun v hv=>Yb hv (aA ax a7.h.size) (Yd (a7.h.block a2 ax) ea)
    go_upto_region 6 with(fail)
    refine Zg [17] [0,1,2,3,4,5,6,7,8,9,10,11,12,13,14,15,16,17,18,19,20] ?_;refine Yt ?_;clear ej ek el eo ep er;refine Ym fun K hK=>?_;refine(pK sd x.ag y.ag kk eR.h _).mono ?_;rw[<-fz.h];rintro e u⟨rfl,rfl⟩;refine Yo hK (aR.J _) ?_;refine Yt ?_;refine aT ?_;obtain⟨u1,bc⟩:=Zn wr.drew;rw[<-bc];have O:Hid (Bz wr u1):=ao (bc▸(a7.h).drew);have eA:Hid (Below d w u1):=ao (I.h.jm.trans (O.h.mono (aF I.h.le I.h.jm.size)));have ct:=Yd (O.h.block a5 ay) d5;have cv:=Yd (O.h.block a5 ay) d6;have cF:=Yd (O.h.block a5 ay) d7;have b7:=Yd (O.h.block a2 ax) d8;have b8:=Yd (O.h.block a2 ax) d9;have b9:=Yd (O.h.block a2 ax) ea;clear bc
    cases z with
    |true=>
     clear b7 b8 b9;go_wp2_with fail;refine(jS d j inst sd x.ag 0 0 false u1 (I.h.df.below O.h) ae).mono ?_;rintro e ut⟨rfl,a6,b2,k2⟩;obtain⟨bR,bU,bV⟩:=fY a6 b2 k2;clear a6 b2 k2;go_wp2_with fail;go_roundw
     case rel=>
      refine⟨xs,y::ys,eg,dT,ei,_,_,_,j+1,rfl,rfl,ao ⟨cX.h,I.h.e2,cT.h,I.h.m2,cS.h,I.h.y,bR.h,?_,by have:=I.h.lx;simp at this;omega,I.h.ly,(I.h.jm.trans (O.h.mono (aF I.h.le I.h.jm.size))).trans bU.h,(I.h.kt.trans (fP.bL O.h)).trans bV.h,I.h.le⟩⟩;have hc:=I.h.cnt;have bE:=eB.h;simp at bE;omega
     case measure=>have:=c0.h;simp[lenOf];omega
    |false=>
     clear ct cv cF b7 b8 b9;have ej:∀v,aR u1.drew v->Cz v a5 bQ (Iz x.ag):=fun v hv=>Yb hv (aA ay O.h.size) (Yd (O.h.block a5 ay) d5);have ek:∀v,aR u1.drew v->Cz v a5 (bQ+1) (Iz x.aw):=fun v hv=>Yb hv (aA ay O.h.size) (Yd (O.h.block a5 ay) d6);have el:∀v,aR u1.drew v->Cz v a5 (bQ+2) (Iz x.count):=fun v hv=>Yb hv (aA ay O.h.size) (Yd (O.h.block a5 ay) d7);have eo:∀v,aR u1.drew v->Cz v a2 bH (Iz y.ag):=fun v hv=>Yb hv (aA ax O.h.size) (Yd (O.h.block a2 ax) d8);have ep:∀v,aR u1.drew v->Cz v a2 (bH+1) (Iz y.aw):=fun v hv=>Yb hv (aA ax O.h.size) (Yd (O.h.block a2 ax) d9);have er:∀v,aR u1.drew v->Cz v a2 (bH+2) (Iz y.count):=fun v hv=>Yb hv (aA ax O.h.size) (Yd (O.h.block a2 ax) ea)
     go_upto_region 9 with(fail)
     refine Zg [13] [0,1,2,3,4,5,6,7,8,9,10,11,12,13,14,15] ?_;refine Yt ?_;clear ej ek el eo ep er;refine Ym fun K hK=>?_;refine(pK sd y.ag x.ag kk eR.h _).mono ?_;rw[<-fH.h];rintro e u⟨rfl,rfl⟩;refine Yo hK (aR.J _) ?_;refine Yt ?_;refine aT ?_;obtain⟨u3,eI⟩:=Zn u1.drew;rw[<-eI];have a0:Hid (Bz wr u3):=ao (eI▸(O.h).drew);have f9:Hid (Below d w u3):=ao (I.h.jm.trans (a0.h.mono (aF I.h.le I.h.jm.size)));have ct:=Yd (a0.h.block a5 ay) d5;have cv:=Yd (a0.h.block a5 ay) d6;have cF:=Yd (a0.h.block a5 ay) d7;have b7:=Yd (a0.h.block a2 ax) d8;have b8:=Yd (a0.h.block a2 ax) d9;have b9:=Yd (a0.h.block a2 ax) ea;clear eI
     cases z2 with
     |true=>
      clear ct cv cF;go_wp2_with fail;refine(jS d j inst sd y.ag y.aw y.count false u3 (I.h.df.below a0.h) ae).mono ?_;rintro e ut⟨rfl,a6,b2,k2⟩;obtain⟨bR,bU,bV⟩:=fY a6 b2 k2;clear a6 b2 k2;go_wp2_with fail;go_roundw
      case rel=>
       refine⟨x::xs,ys,_,_,_,ed,dp,ef,j+1,rfl,rfl,ao ⟨I.h.e1,cm.h,I.h.m1,cl.h,I.h.x,ck.h,bR.h,?_,I.h.lx,by have:=I.h.ly;simp at this;omega,(I.h.jm.trans (a0.h.mono (aF I.h.le I.h.jm.size))).trans bU.h,(I.h.kt.trans (fP.bL a0.h)).trans bV.h,I.h.le⟩⟩;have hc:=I.h.cnt;have bE:=eB.h;simp at bE;omega
      case measure=>have:=cn.h;simp[lenOf];omega
     |false=>
      clear ct cv cF b7 b8 b9;have ej:∀v,aR u3.drew v->Cz v a5 bQ (Iz x.ag):=fun v hv=>Yb hv (aA ay a0.h.size) (Yd (a0.h.block a5 ay) d5);have ek:∀v,aR u3.drew v->Cz v a5 (bQ+1) (Iz x.aw):=fun v hv=>Yb hv (aA ay a0.h.size) (Yd (a0.h.block a5 ay) d6);have el:∀v,aR u3.drew v->Cz v a5 (bQ+2) (Iz x.count):=fun v hv=>Yb hv (aA ay a0.h.size) (Yd (a0.h.block a5 ay) d7);have eo:∀v,aR u3.drew v->Cz v a2 bH (Iz y.ag):=fun v hv=>Yb hv (aA ax a0.h.size) (Yd (a0.h.block a2 ax) d8);have ep:∀v,aR u3.drew v->Cz v a2 (bH+1) (Iz y.aw):=fun v hv=>Yb hv (aA ax a0.h.size) (Yd (a0.h.block a2 ax) d9);have er:∀v,aR u3.drew v->Cz v a2 (bH+2) (Iz y.count):=fun v hv=>Yb hv (aA ax a0.h.size) (Yd (a0.h.block a2 ax) ea)
      go_upto_region 3 with(fail)
      refine Zg [] [0,1,2,3,4,5,6] ?_;refine Yt ?_;clear ej ek el eo ep er;refine aT ?_;obtain⟨u4,eJ⟩:=Zn u3.drew;rw[<-eJ];have a8:Hid (Bz wr u4):=ao (eJ▸(a0.h).drew);have fT:Hid (Below d w u4):=ao (I.h.jm.trans (a8.h.mono (aF I.h.le I.h.jm.size)));have ct:=Yd (a8.h.block a5 ay) d5;have cv:=Yd (a8.h.block a5 ay) d6;have cF:=Yd (a8.h.block a5 ay) d7;have b7:=Yd (a8.h.block a2 ax) d8;have b8:=Yd (a8.h.block a2 ax) d9;have b9:=Yd (a8.h.block a2 ax) ea;clear eJ
      cases z3 with
      |true=>
       clear ct cv cF b7 b8 b9
       go_upto_region 5 with(fail)
       refine Zg [] [0,1,2,3,4,5] ?_;refine Yt ?_;refine aT ?_;go_wp2_with fail;go_roundw
       case rel=>
        refine⟨xs,ys,eg,dT,ei,ed,dp,ef,j,rfl,rfl,ao ⟨cX.h,cm.h,cT.h,cl.h,cS.h,ck.h,(I.h.df.below a8.h).below (aS (aa _ _)),?_,by have:=I.h.lx;simp at this;omega,by have:=I.h.ly;simp at this;omega,fT.h.drew,I.h.kt.trans (fP.bL a8.h.drew),I.h.le⟩⟩;have bE:=eB.h;simp at bE;omega
       case measure=>have:=c0.h;have:=cn.h;simp[lenOf];omega
      |false=>
       clear ct cv cF;go_wp2_with fail;refine(jS d j inst sd y.ag y.aw y.count false u4 (I.h.df.below a8.h) ae).mono ?_;rintro e ut⟨rfl,a6,b2,k2⟩;obtain⟨bR,bU,bV⟩:=fY a6 b2 k2;clear a6 b2 k2 b7 b8 b9
       go_upto_region 5 with(fail)
       refine Zg [] [0,1,2,3,4,5] ?_;refine Yt ?_;refine aT ?_;go_wp2_with fail;go_roundw
       case rel=>
        refine⟨xs,ys,eg,dT,ei,ed,dp,ef,j+1,rfl,rfl,ao ⟨cX.h,cm.h,cT.h,cl.h,cS.h,ck.h,bR.h.below (aS (aa _ _)),?_,by have:=I.h.lx;simp at this;omega,by have:=I.h.ly;simp at this;omega,((I.h.jm.trans (a8.h.mono (aF I.h.le I.h.jm.size))).trans bU.h).drew,((I.h.kt.trans (fP.bL a8.h)).trans bV.h).trans (fP.bL (aS (aa _ _))),I.h.le⟩⟩;have bE:=eB.h;simp at bE;omega
       case measure=>have:=c0.h;have:=cn.h;simp[lenOf];omega
def sZ (LA LB:List Dx) (n:Nat):Nat:=((((ke LA).zip (ke LB)).take n).map fun x=>jR 0 x.1.1 x.2.1+jR 1 x.1.2 x.2.2).sum
theorem Ql (D I:List Dx) (h:D.length=I.length):sZ D I D.length=wj (ke D) (ke I):=by
 unfold sZ wj;rw[aL];rw[List.length_zip];unfold ke;rw[br,br];omega
theorem Dm {D I:List Dx} {x y:Dx} (hx:D[n]?=some x) (J:I[n]?=some y):sZ D I (n+1)=sZ D I n+(jR 0 x.1.sd y.1.sd+jR 1 x.2.sd y.2.sd):=by
 unfold sZ;have O:((ke D).zip (ke I))[n]?=some ((x.1.sd,x.2.sd),(y.1.sd,y.2.sd)):=by
  unfold ke;rw[List.getElem?_zip_eq_some,bo,bo,hx,J];exact⟨rfl,rfl⟩
 rw[bC,O,cx,MR];simp
theorem yT (k:Nat) (a b:Ml) (ha:a.lv.length<=1000) (D:b.lv.length<=1000):jR k a b<=2001:=by
 unfold jR;have:=rO k a.lv b.lv
 split<;>omega
structure Qm (w:World) (B:Nat) (A:Option Addr) (n c:Nat) (L:List Dx):Prop where
 n:L.length=n
 vw:nt w B A c L
 lv:∀e∈L,e.1.sd.lv.length≤1000∧e.2.sd.lv.length≤1000
theorem NZ {c:Nat} (h:Qm w B A n c L) (hm:m<n):
  ∃b o e,A=some ⟨b,o,none⟩/\b<w.heap.size/\L[m]?=some e/\(∀j v,(Yx e)[j]?=some v->w.cell? ⟨b,o+m*10+j,none⟩=some v):=by
 have J:=Mn L;have I:SR L≠[]:=by intro e;rw[e] at J;simp at J;have:=h.n;omega
 obtain⟨b,o,hA,hb,hc⟩:=dP.O h.vw.row I;have hr:L[m]?=some (L[m]'(cA h.n)):=aj _;refine⟨b,o,_,hA,hb,hr,fun j v hj=>?_⟩;have D:j<10:=by have:=(az.1 hj).1;rw[wX] at this;exact this
 rw[bg];exact hc _ _ ((ig wX j D hr).trans hj)
theorem Qn (w:World):Wz 59 #[] w fun e w'=> ∃gs,e= .returned (.slice (some ⟨gs,0,none⟩) 2 2)/\aE w' gs 3 #[Iz 1,Iz 2]/\Bz w w':=by
 go_enter Tryz.func59,Tryz.ntmps59
 go_wp2_with fail;go_ret;exact⟨_,rfl,aE.new w _ _,au (aa _ _) _⟩
structure Xf (w w2 wr:World) (d k:Nat):Prop where
 df:zK wr d k
 jm:Below d w2 wr
 kt:fP w2 wr
theorem Tv (B1 B2:Nat) (A1 A2:Option Addr) (N c1 c2:Nat) (LA LB:List Dx) (seq:Int) (w:World) (h1:Qm w B1 A1 N c1 LA) (h2:Qm w B2 A2 N c2 LB) (hN:N<=21):
  Wz 116 #[.agg #[.slice A1 N c1], .agg #[.slice A2 N c2],Iz seq] w fun e w'=> ∃A c,e= .returned (.slice A (wj (ke LA) (ke LB)) c)/\Bz w w':=by
 obtain⟨w0,bR⟩:=Zn ((w.alloc (.cells #[.slice A1 N c1] 71)).alloc (.cells #[.slice A2 N c2] 71));obtain⟨g3,cf⟩:=Zn w.heap.size;obtain⟨g4,cQ⟩:=Zn (g3+1);have B0:Bz w w0:=by rw[bR];exact au (au (aa _ _) _) _
 have G3:aE w0 g3 71 #[.slice A1 N c1]:=by rw[bR,cf];exact(aE.new w _ _).below (au (aa _ _) _)
 have G4:aE w0 g4 71 #[.slice A2 N c2]:=by
  rw[bR,cQ,cf];have:=aE.new (w.alloc (.cells #[.slice A1 N c1] 71)) #[.slice A2 N c2] 71;rw[cw] at this;exact this
 have k3:Cz w0 g3 0 (.slice A1 N c1):=G3.cell 0;have k4:Cz w0 g4 0 (.slice A2 N c2):=G4.cell 0;have d7:∀n,n<=N->sZ LA LB n<=4002*n:=by
  intro n
  induction n with
  |zero=>intro _;simp[sZ]
  |succ n ih=>
   intro hn;have hx:LA[n]?=some (LA[n]'(by have:=h1.n;omega)):=aj _;have hy:LB[n]?=some (LB[n]'(by have:=h2.n;omega)):=aj _;rw[Dm hx hy];have a1:=h1.lv _ (aH hx);have a2:=h2.lv _ (aH hy);have d0:=yT 0 _ _ a1.1 a2.1;have d1:=yT 1 _ _ a1.2 a2.2;have:=ih (by omega);omega
 have cv:wj (ke LA) (ke LB)=sZ LA LB N:=by rw[<-Ql LA LB (h1.n.trans h2.n.symm),h1.n]
 rw[cv];obtain⟨H1,H2,d8,cS,cT,er⟩:=FW h1 h2 B0 G3 G4 d7;clear h1 h2 B0 G3 G4 d7 cv
 go_enter Tryz.func116,Tryz.ntmps116
 go_upto_region 1 with(fail)
 rw[<-bR,<-cf,<-cQ];clear bR cf cQ
 go_upto_region 4 with(fail)
 obtain⟨w2,ck⟩:=Zn (w0.alloc (.cells #[Iz seq, .slice none 0 0] 260));obtain⟨d,ed⟩:=Zn w0.heap.size;have B2:=Zw ck;have D2:zK w2 d 0:=⟨seq,none,0,[],by rw[ck,ed];exact aE.new _ _ _,aM _ _ _ _,fun e=>by cases e⟩;rw[<-ck,<-ed];have cX:=cS.h.below B2;have d9:=cT.h.below B2;have hd:w.heap.size<=d/\g3<d/\g4<d:=⟨by rw[ed];exact d8.h.size,by rw[ed];exact cS.h.lt,by rw[ed];exact cT.h.lt⟩;have eE:Cz w2 g3 0 (.slice A1 N c1):=cX.cell 0;obtain⟨cF,cH,et,ay,a5⟩:=rU cX d9 D2 (dW d8.h B2) hd;clear ck ed B2 D2 cX d9 k3 k4 cS cT;go_wp2_with fail
 go_loopw [24] (fun v wr=> ∃n:Nat,n<=N/\v= Iz (n:Int)/\Hid (Xf w w2 wr d (sZ LA LB n))) (fun v _=>N - (intOf v).toNat)
 case atStart=>exact⟨0,aB _,rfl,ao ⟨et.h,aa _ _,fP.refl _⟩⟩
 case round=>
  obtain⟨n,hn,rfl,HI⟩:=hrel;obtain⟨wo,rfl⟩:=Zn wr
  by_cases bU:n<N
  ·have i1:(n:Int)<N:=by omega
   obtain⟨b1,o1,x,eu,a8,hx,ea⟩:=NZ H1.h bU;obtain⟨b2,o2,y,ew,ba,hy,eb⟩:=NZ H2.h bU;subst eu;subst ew;obtain⟨x0,x1⟩:=x;obtain⟨y0,y1⟩:=y;have ef:=H1.h.vw.lv _ (aH hx);have eg:=H2.h.vw.lv _ (aH hy);have ei:=H1.h.lv _ (aH hx);have ej:=H2.h.lv _ (aH hy);have c0:=Dm hx hy;have ek:=er.h n hn;obtain⟨T,eT⟩:=Zn (sZ LA LB n);rw[<-eT] at c0 ek;have hT:T<=90000:=by omega
   have cl:Hid (Xf w w2 wo d T):=by rw[eT];exact HI
   obtain⟨el,cm,cn,dc,dp,ey,bb,bc⟩:=Dw bU ef eg ei ej c0 ea eb;clear bU hn hx hy ef eg ei ej c0 ek eT HI ea eb;go_wp2_with fail;refine(Qn wo).mono ?_;rintro e u1⟨gs,rfl,eo,ct⟩;have I1:Xf w w2 u1 d T:=⟨cl.h.df.below ct,cl.h.jm.trans (ct.mono (po cl.h.df.lt)),cl.h.kt.trans (fP.bL ct)⟩;obtain⟨ez,eA⟩:=dF I1 eo;clear I1 eo ct;go_wp2_with fail
   go_loopw [29] (fun v wr=> ∃j:Nat,j<=2/\v= Iz (j:Int)/\Hid (Xf w w2 wr d (if j=0 then T else if j=1 then T+jR 0 x0.sd y0.sd else T+jR 0 x0.sd y0.sd+jR 1 x1.sd y1.sd)/\aE wr gs 3 #[Iz 1,Iz 2])) (fun v _=>2 - (intOf v).toNat)
   case atStart=>exact⟨0,by omega,rfl,ao ⟨ez.h,eA.h⟩⟩
   case round=>
    obtain⟨j,hj,rfl,HJ⟩:=hrel;rcases(show j=0\/j=1\/j=2 by omega) with rfl|rfl|rfl
    ·have hJ:=HJ.h.1
     rw[if_pos rfl] at hJ;have bf:=HJ.h.2;have s0:Cz wr gs 0 (Iz 1):=bf.cell 0;have ep:gs<wr.heap.size:=bf.lt;obtain⟨I,dS⟩:=dF hJ bf;clear hJ bf HJ;have bV:∀k,k<w.heap.size->wr.heap[k]?=w.heap[k]?:=fun k hk=>(I.h.jm.block k (by have:=a5.h.1;omega)).trans (ay.h.block k hk);have ax:∀(b i:Nat) (v:Value),b<w.heap.size->Cz w b i v->∀u,aR wr.drew u->Cz u b i v:=fun b i v hb hv u hu=>Yb hu (by have:=I.h.jm.size;have:=ay.h.size;show b<wr.heap.size;omega) (Yd (bV b hb) hv);have p3:∀u,aR wr.drew u->Cz u g3 0 (.slice (some ⟨b1,o1,none⟩) N c1):=fun u hu=>Yb hu (by have:=I.h.df.lt;have:=a5.h;show g3<wr.heap.size;omega) ((I.h.kt.D cF.h (by decide) (by decide)).cell 0);have p4:∀u,aR wr.drew u->Cz u g4 0 (.slice (some ⟨b2,o2,none⟩) N c2):=fun u hu=>Yb hu (by have:=I.h.df.lt;have:=a5.h;show g4<wr.heap.size;omega) ((I.h.kt.D cH.h (by decide) (by decide)).cell 0);obtain⟨⟨a6,⟨ap,aq,an⟩,ah⟩,Aa,ca⟩:=x0;obtain⟨⟨a7,⟨bp,bq,bn⟩,bh⟩,Ab,cb⟩:=y0;have a0:=ax b1 (o1+n*10) (.slice Aa a6.length ca) a8 (by have:=bb.h 0 _ rfl;simpa[bg] using this);have b0:=ax b2 (o2+n*10) (.slice Ab a7.length cb) ba (by have:=bc.h 0 _ rfl;simpa[bg] using this);have a1:=ax b1 (o1+n*10+1) (Iz ap) a8 (by have:=bb.h 1 _ rfl;simpa[bg] using this);have dT:=ax b2 (o2+n*10+1) (Iz bp) ba (by have:=bc.h 1 _ rfl;simpa[bg] using this);have a2:=ax b1 (o1+n*10+2) (Iz aq) a8 (by have:=bb.h 2 _ rfl;simpa[bg] using this);have d2:=ax b2 (o2+n*10+2) (Iz bq) ba (by have:=bc.h 2 _ rfl;simpa[bg] using this);have a3:=ax b1 (o1+n*10+3) (Iz an) a8 (by have:=bb.h 3 _ rfl;simpa[bg] using this);have d3:=ax b2 (o2+n*10+3) (Iz bn) ba (by have:=bc.h 3 _ rfl;simpa[bg] using this);have a4:=ax b1 (o1+n*10+4) (.bool ah) a8 (by have:=bb.h 4 _ rfl;simpa[bg] using this);have d4:=ax b2 (o2+n*10+4) (.bool bh) ba (by have:=bc.h 4 _ rfl;simpa[bg] using this);obtain⟨na,bt⟩:=Zn a6.length;obtain⟨nb,bE⟩:=Zn a7.length;rw[<-bt] at a0;rw[<-bE] at b0;obtain⟨eB,eC⟩:=dF bt bE;have bQ:=fun(u:World) (hu:Bz wr u)=>FV d T 0 (n:Int) 1 ⟨⟨a6,⟨ap,aq,an⟩,ah⟩,Aa,ca⟩ ⟨⟨a7,⟨bp,bq,bn⟩,bh⟩,Ab,cb⟩ u (by omega) (by omega) (I.h.df.below hu) (by omega) dc.h.1 dp.h.1 (ie cm.h.1) (ie cn.h.1)
      (fun v hv=>(dP.O cm.h.1).below ((ay.h.trans (I.h.jm.mono a5.h.1)).trans ((hu.mono (by have:=I.h.jm.size;have:=ay.h.size;omega)).trans (hv.mono a5.h.1))))
      (fun v hv=>(dP.O cn.h.1).below ((ay.h.trans (I.h.jm.mono a5.h.1)).trans ((hu.mono (by have:=I.h.jm.size;have:=ay.h.size;omega)).trans (hv.mono a5.h.1))))
     rw[show CT.cells ⟨⟨a6,⟨ap,aq,an⟩,ah⟩,Aa,ca⟩=[.slice Aa na ca,Iz ap,Iz aq,Iz an, .bool ah] by rw[bt];rfl,show CT.cells ⟨⟨a7,⟨bp,bq,bn⟩,bh⟩,Ab,cb⟩=[.slice Ab nb cb,Iz bp,Iz bq,Iz bn, .bool bh] by rw[bE];rfl] at bQ;have d5:=ao bQ;clear ax bV bQ bt bE hj
     go_upto_region 10 with(fail)
     refine bx (R:=aR) 17 [17] [0,1,2,3,4,5,6,7,8,9,10,11,12,13,14,15,16,17] (by kernel_rfl) aR.tr aR.J (by kernel_rfl) (fun _ _ _ _ _ h=>h) ?_;refine Yt ?_;clear p3 p4 a0 a1 a2 a3 a4 b0 dT d2 d3 d4;refine Zl fun K hK=>?_;go_simp;refine(d5.h _ (aS (aa _ _))).mono ?_;rintro e v⟨rfl,b7,b8,k2⟩;refine Yl hK ?_;refine aT ?_;have b9:Xf w w2 v d (T+jR 0 (⟨a6,⟨ap,aq,an⟩,ah⟩:Ml) ⟨a7,⟨bp,bq,bn⟩,bh⟩):=⟨b7,(I.h.jm.drew).trans b8,(I.h.kt.trans (fP.bL (aS (aa _ _)))).trans k2⟩;have d6:=ao b9;have bH:=((fP.bL (aS (aa _ _))).trans k2).D dS.h (by decide) (by decide);have cd:=ao bH;clear b9 b7 b8 k2 bH;go_wp2_with fail;go_roundw
     case rel=>exact⟨1,by omega,rfl,ao ⟨d6.h,cd.h⟩⟩
     case measure=>simp[intOf]
    ·have hJ:=HJ.h.1
     rw[if_neg (by omega),if_pos rfl] at hJ;have bf:=HJ.h.2;have s0:Cz wr gs 1 (Iz 2):=bf.cell 1;have ep:gs<wr.heap.size:=bf.lt;obtain⟨I,dS⟩:=dF hJ bf;clear hJ bf HJ;have bV:∀k,k<w.heap.size->wr.heap[k]?=w.heap[k]?:=fun k hk=>(I.h.jm.block k (by have:=a5.h.1;omega)).trans (ay.h.block k hk);have ax:∀(b i:Nat) (v:Value),b<w.heap.size->Cz w b i v->∀u,aR wr.drew u->Cz u b i v:=fun b i v hb hv u hu=>Yb hu (by have:=I.h.jm.size;have:=ay.h.size;show b<wr.heap.size;omega) (Yd (bV b hb) hv);have p3:∀u,aR wr.drew u->Cz u g3 0 (.slice (some ⟨b1,o1,none⟩) N c1):=fun u hu=>Yb hu (by have:=I.h.df.lt;have:=a5.h;show g3<wr.heap.size;omega) ((I.h.kt.D cF.h (by decide) (by decide)).cell 0);have p4:∀u,aR wr.drew u->Cz u g4 0 (.slice (some ⟨b2,o2,none⟩) N c2):=fun u hu=>Yb hu (by have:=I.h.df.lt;have:=a5.h;show g4<wr.heap.size;omega) ((I.h.kt.D cH.h (by decide) (by decide)).cell 0);obtain⟨⟨a6,⟨ap,aq,an⟩,ah⟩,Aa,ca⟩:=x1;obtain⟨⟨a7,⟨bp,bq,bn⟩,bh⟩,Ab,cb⟩:=y1;have a0:=ax b1 (o1+n*10+5) (.slice Aa a6.length ca) a8 (by have:=bb.h 5 _ rfl;simpa[bg] using this);have b0:=ax b2 (o2+n*10+5) (.slice Ab a7.length cb) ba (by have:=bc.h 5 _ rfl;simpa[bg] using this);have a1:=ax b1 (o1+n*10+5+1) (Iz ap) a8 (by have:=bb.h 6 _ rfl;simpa[bg] using this);have dT:=ax b2 (o2+n*10+5+1) (Iz bp) ba (by have:=bc.h 6 _ rfl;simpa[bg] using this);have a2:=ax b1 (o1+n*10+5+2) (Iz aq) a8 (by have:=bb.h 7 _ rfl;simpa[bg] using this);have d2:=ax b2 (o2+n*10+5+2) (Iz bq) ba (by have:=bc.h 7 _ rfl;simpa[bg] using this);have a3:=ax b1 (o1+n*10+5+3) (Iz an) a8 (by have:=bb.h 8 _ rfl;simpa[bg] using this);have d3:=ax b2 (o2+n*10+5+3) (Iz bn) ba (by have:=bc.h 8 _ rfl;simpa[bg] using this);have a4:=ax b1 (o1+n*10+5+4) (.bool ah) a8 (by have:=bb.h 9 _ rfl;simpa[bg] using this);have d4:=ax b2 (o2+n*10+5+4) (.bool bh) ba (by have:=bc.h 9 _ rfl;simpa[bg] using this);obtain⟨na,bt⟩:=Zn a6.length;obtain⟨nb,bE⟩:=Zn a7.length;rw[<-bt] at a0;rw[<-bE] at b0;obtain⟨eB,eC⟩:=dF bt bE;have bQ:=fun(u:World) (hu:Bz wr u)=>FV d (T+jR 0 x0.sd y0.sd) 1 (n:Int) 2 ⟨⟨a6,⟨ap,aq,an⟩,ah⟩,Aa,ca⟩ ⟨⟨a7,⟨bp,bq,bn⟩,bh⟩,Ab,cb⟩ u (by omega) (by omega) (I.h.df.below hu) (by have:=yT 0 x0.sd y0.sd dc.h.1 dp.h.1;omega) dc.h.2 dp.h.2 (ie cm.h.2) (ie cn.h.2)
      (fun v hv=>(dP.O cm.h.2).below ((ay.h.trans (I.h.jm.mono a5.h.1)).trans ((hu.mono (by have:=I.h.jm.size;have:=ay.h.size;omega)).trans (hv.mono a5.h.1))))
      (fun v hv=>(dP.O cn.h.2).below ((ay.h.trans (I.h.jm.mono a5.h.1)).trans ((hu.mono (by have:=I.h.jm.size;have:=ay.h.size;omega)).trans (hv.mono a5.h.1))))
     rw[show CT.cells ⟨⟨a6,⟨ap,aq,an⟩,ah⟩,Aa,ca⟩=[.slice Aa na ca,Iz ap,Iz aq,Iz an, .bool ah] by rw[bt];rfl,show CT.cells ⟨⟨a7,⟨bp,bq,bn⟩,bh⟩,Ab,cb⟩=[.slice Ab nb cb,Iz bp,Iz bq,Iz bn, .bool bh] by rw[bE];rfl] at bQ;have d5:=ao bQ;clear ax bV bQ bt bE hj
     go_upto_region 10 with(fail)
     refine bx (R:=aR) 17 [17] [0,1,2,3,4,5,6,7,8,9,10,11,12,13,14,15,16,17] (by kernel_rfl) aR.tr aR.J (by kernel_rfl) (fun _ _ _ _ _ h=>h) ?_;refine Yt ?_;clear p3 p4 a0 a1 a2 a3 a4 b0 dT d2 d3 d4;refine Zl fun K hK=>?_;go_simp;refine(d5.h _ (aS (aa _ _))).mono ?_;rintro e v⟨rfl,b7,b8,k2⟩;refine Yl hK ?_;refine aT ?_;have b9:Xf w w2 v d ((T+jR 0 x0.sd y0.sd)+jR 1 (⟨a6,⟨ap,aq,an⟩,ah⟩:Ml) ⟨a7,⟨bp,bq,bn⟩,bh⟩):=⟨b7,(I.h.jm.drew).trans b8,(I.h.kt.trans (fP.bL (aS (aa _ _)))).trans k2⟩;have d6:=ao b9;have bH:=((fP.bL (aS (aa _ _))).trans k2).D dS.h (by decide) (by decide);have cd:=ao bH;clear b9 b7 b8 k2 bH;go_wp2_with fail;go_roundw
     case rel=>exact⟨2,by omega,rfl,ao ⟨d6.h,cd.h⟩⟩
     case measure=>simp[intOf]
    ·have hJ:=HJ.h.1
     rw[if_neg (by omega),if_neg (by omega)] at hJ;have I:=ao hJ;clear hJ HJ;go_wp2_with fail;go_roundw
     case rel=>exact⟨n+1,by have:=el.h;omega,by go_num,by rw[ey.h,<-bg];exact I⟩
     case measure=>have:=el.h;simp[intOf];omega
  ·obtain rfl:n=N:=by omega
   have i1:¬((n:Int)<n):=by omega
   obtain⟨q,A,c,vs,hD, -, -⟩:=HI.h.df;have e1:Cz wo d 1 (.slice A (sZ LA LB n) c):=hD.cell 1;have hb:Bz w wo:=ay.h.trans (HI.h.jm.mono a5.h.1);have eD:=ao hb;clear hD hb HI bU;obtain⟨T,eT⟩:=Zn (sZ LA LB n);rw[<-eT] at e1;have HT:=ao eT;clear eT;go_wp2_with fail;go_ret;exact⟨⟨A,c,by rw[<-HT.h];rfl⟩,eD.h⟩
structure cC (F:Nat→Prop) (w:World) (g:Nat) (P:PD) (C:zt) (Gs R:Nat→Prop) (m:Mk) (i:Nat):Prop where
 ZC:jW w Gs R g P m C
 lo:∀j,j=g∨j=C.ub∨Gs j∨R j→¬F j
 un:m.un≤i
section
variable {F:Nat→Prop} {w w':World} {g:Nat} {P:PD} {C:zt} {Gs R:Nat→Prop} {m:Mk} {i:Nat}
theorem cC.below (h:cC F w g P C Gs R m i) (D:Bz w w'):cC F w' g P C Gs R m i:=⟨h.ZC.below D,h.lo,h.un⟩
theorem cC.lv (h:cC F w g P C Gs R m i) (I:Lv F' w w') (hF:∀j,F' j->F j):cC F w' g P C Gs R m i:=⟨h.ZC.lv I fun k J D=>h.lo k J (hF k D),h.lo,h.un⟩
theorem cC.new (hm:jW w Gs R g P (Mk.new P) C) (I:B<=g) (J:B<=C.ub) (D:∀j,Gs j\/R j->B<=j):cC (fun j=>j<B) w g P C Gs R (Mk.new P) 0:=
 ⟨hm,by rintro j (rfl|rfl|h|h) O;omega;omega;(have:=D j (.inl h);omega);(have:=D j (.inr h);omega),aB _⟩
theorem cC.more (h:cC F w g P C Gs R m i) (hF:∀j,F' j->F j\/w.heap.size<=j):cC F' w g P C Gs R m i:=
 ⟨h.ZC,fun j D hf=>by rcases hF j hf with I|I;exact h.lo j D I;have:=h.ZC.ZD j D;omega,h.un⟩
def DoF (F:Nat→Prop) (w:World) (g:Nat) (P:PD) (C:zt) (R:Nat→Prop) (m:Mk) (c:bN) (i:Nat) (e:Ending) (w':World):Prop:=
 ∃A cp Gs',e= .returned (.slice A (pC P m c).2.length cp)∧w'.ownsRow w.heap.size 40 8 (.slice A (pC P m c).2.length cp) (pC P m c).2.length (fC (pC P m c).2)∧(pC P m c).2.length≤18036003∧cC F w' g P C Gs' R (pC P m c).1 (i+1)∧Lv (fun j=> ¬F j) w w'
end
theorem abc (F:Nat->Prop) (g:Nat) (P:PD) (m:Mk) (Gs R:Nat->Prop) (C:zt) (c:bN) (i:Nat) (w:World) (h:cC F w g P C Gs R m i) (hF:∀j,F j->j<w.heap.size) (hi:i<1000000) (hq:c.aw<=12000) (hl:c.ky.length<=9223372036854775807):
  Wz 16 #[Pz g,c.val] w (DoF F w g P C R m c i):=by
 refine(NM g P m Gs R C c w h.ZC (cA h.un) hl).mono ?_;rintro e w2⟨hN,A1,cp,Gs',rfl,I,O,ax,J,ay⟩;have a0:=Yh P m c;have hu:=h.un;refine⟨A1,cp,Gs',rfl,I,aF hN ae,⟨O,?_,ae⟩,ax.mono fun j D=> .inl (h.lo j (by rcases D with h|h;exact .inr (.inl h);exact .inr (.inr (.inl h))))⟩;rintro j (D|D|D|D) hf
 ·exact h.lo j (.inl D) hf
 ·exact h.lo j (.inr (.inl D)) hf
 ·rcases J j D with h3|h3
  ·exact h.lo j (.inr (.inr (.inl h3))) hf
  ·have:=h3.1;have:=hF j hf;omega
 ·exact h.lo j (.inr (.inr (.inr D))) hf
abbrev MkL (B:Nat):=cC (fun j=>j<B)
theorem wZ.ab0 {i:Nat} {c:bN} (h:wZ P i c):c.aw<=12000/\c.ky.length<=9223372036854775807:=⟨cA h.aw,by rw[h.ky];simp⟩
end Go.Proofs.YtbaaheidifacaaaGreat
