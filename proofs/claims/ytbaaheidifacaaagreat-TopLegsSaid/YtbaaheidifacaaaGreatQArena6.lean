import Derived.Test.YtbaaheidifacaaaGreatQArena5
import Derived.Test.YtbaaheidifacaaaGreatQLeaves
set_option linter.defProp false
set_option linter.unusedVariables false
set_option linter.unusedSimpArgs false
set_option maxRecDepth 100000
set_option maxHeartbeats 12800000
namespace Go.Proofs.YtbaaheidifacaaaGreat
variable {A:Option Addr} {n size:Nat} {w:World} {xs:List Value}
open Go.RowKit
theorem Q8 (l:List jl):∀u∈vP l,u.oneCell'=true:=tJ (fun q u hu=>by
 simp only[jl.cells,a9,xd,or_false] at hu;rcases hu with rfl|rfl|rfl|rfl<;>rfl) l
theorem OB (l:List cU):∀u∈nL l,u.oneCell'=true:=tJ (fun q u hu=>by
 simp only[cU.cells,a9,xd,or_false] at hu;rcases hu with rfl|rfl|rfl|rfl|rfl|rfl|rfl|rfl<;>rfl) l
def T8 (w w':World) (a gs:Nat) (rq:Option Nat) (X:qd) (Ls:List (List Nat)) (aK:Nat→dn):Prop:=
 ∃rq' X',cY w' a gs rq' X'∧fB X' (Ls++[[]]) aK∧X'.H.length=X.H.length+1∧X'.free=X.free∧(rq'=rq∨∃g,rq'=some g∧w.heap.size≤g)∧Lv (qA a gs rq) w w'
theorem Em (a gs:Nat) (rq:Option Nat) (X:qd) (Ls:List (List Nat)) (aK:Nat->dn) (w:World) (h:cY w a gs rq X) (R:fB X Ls aK) (hn:X.H.length<900000):
  Wz 187 #[Pz a] w fun e w'=>e= .returned (Iz (Ls.length:Int))/\T8 w w' a gs rq X Ls aK:=by
 obtain⟨Aq,cq,cs,c0,c1,c2,a0,hq,O⟩:=h.F8;have hr:=Q4 R;have a2:=R.ql;have fz:=h.frozen 1;have bc:=h.lt a (.inl rfl);have bf:=h.lt gs (.inr (.inl rfl));obtain⟨N,eN⟩:=Zn X.H.length;obtain⟨S,eS⟩:=Zn X.slots.length;rw[<-eN] at hq O c1 hn;rw[<-eS] at c0;have a5:∀g,(Value.slice Aq N cq).ownBlock=some g->g≠a/\g≠gs:=fun g hg=>by
  have:=h.ne.2 g (by rw[O,hg]);exact⟨fun e=>this.1 e.symm,fun e=>this.2 e.symm⟩
 have bt:IntKind.i64.wrap (((N+1:Nat):Int) - 1)=(N:Int):=by rw[aN _ ae];omega
 have bE:IntKind.i64.wrap ((N:Int)+1 - 1)=(N:Int):=by rw[aN _ ae];omega
 obtain⟨H,HR,bh,I,bH,ax,a6,bQ⟩:=Dw h hr a2 eN eS a5 O a0;clear h hr R a2 eN eS a5 O a0
 go_enter Tryz.func187,Tryz.ntmps187
 go_wp2_with (at_builtin
              refine dO Vs hq #[Iz (-1),Iz (-1),Iz 0,Iz 0] rfl _ _ rfl rfl rfl rfl (by intro u hu;simp at hu;rcases hu with rfl|rfl|rfl|rfl<;>rfl) ae (aB _) ?_;intro A2 D w2 a7 g2 b2 l2;have ba:w2.heap[a]?=w.heap[a]?:=g2.block a bc fun e=>(ax.h a e.symm).1 rfl;have bs:w2.heap[gs]?=w.heap[gs]?:=g2.block gs bf fun e=>(ax.h gs e.symm).2 rfl;have d0:w2.cell? ⟨a,0,none⟩=_:=Yd ba c0;have d1:w2.cell? ⟨a,1,none⟩=_:=Yd ba c1;have bR:Fz w2 a 1:=(aY (a:=⟨a,1,none⟩) ba).trans fz;clear c0 c1 c2 fz hq)
 go_ret;refine⟨jJ (by rw[I.h,bh.h]),(Value.slice A2 (N+1) D).ownBlock,⟨X.slots,X.H++[⟨-1, -1,0,0⟩],X.free⟩,?_,HR.h,bT,rfl,?_,?_⟩
 ·obtain⟨⟨bU,bV,bp,h1,h2,h3,h4⟩,h5⟩:=H.h
  have a8:=ba.trans h1;refine⟨⟨A2,D,bp,?_,?_,by simp[I.h],?_⟩,⟨h5.1,by have:=I.h;simp;omega⟩⟩
  ·rw[heap_setCell_same _ _ _ _ _ _ a8]
   simp[I.h]
  ·have bb:∀g,(Value.slice A2 (X.H++[(⟨-1, -1,0,0⟩:jl)]).length D).ownBlock=some g->(w2.setCell ⟨a,1,none⟩ (.slice A2 (N+1) D)).heap[g]?=w2.heap[g]?:=by
    intro g hg;refine av _ _ _ _ ?_;have J:(Value.slice A2 (N+1) D).ownBlock=some g:=by cases A2<;>simp[Value.ownBlock] at hg⊢ <;>exact hg
    rcases l2 with hl|hl
    ·rw[hl] at J;exact(ax.h g J).1
    ·rw[hl] at J;injection J with J;simp only;omega
   have h6:w2.ownsRow 0 273 4 (.slice A2 (X.H++[(⟨-1, -1,0,0⟩:jl)]).length D) (X.H++[(⟨-1, -1,0,0⟩:jl)]).length (vP (X.H++[⟨-1, -1,0,0⟩])):=by
    have e1:(X.H++[(⟨-1, -1,0,0⟩:jl)]).length=N+1:=by simp[I.h]
    rw[e1];unfold vP;rw[rR];exact a7
   exact aX h6 bb
  ·have ay:(w2.setCell ⟨a,1,none⟩ (.slice A2 (N+1) D)).heap[gs]?=w.heap[gs]?:=(av _ _ _ _ (fun e=>H.h.ne.1 e.symm)).trans bs
   exact uX h4 ay
 ·rcases l2 with hl|hl
  ·exact .inl (by rw[hl,a6.h])
  ·exact .inr ⟨_,hl,ae⟩
 ·refine(Lv.dy g2 fun k hk=> .inl (.inr (.inr (by rw[a6.h,hk])))).setCell (p:=⟨a,1,none⟩) (.inl rfl) _
theorem Tryz.Q9:(Tryz.prog.info? 253).map (fun i=>(i.zero,i.size,i.bytes))=some (some (.agg #[.bool false,Iz 0,Iz 0,Iz 0, .bool false,Iz 0,Iz 0,Iz 0]),8,64):=by kernel_rfl
theorem KE:kA Tryz.prog 241 253 (.agg #[.bool false,Iz 0,Iz 0,Iz 0, .bool false,Iz 0,Iz 0,Iz 0]) 8 64:=
 ⟨Tryz.underlying241,let ⟨i,h,D,I,J⟩:=info_parts Tryz.Q9;⟨i,h,D,I,J⟩,rfl,ae,ae⟩
theorem Tryz.Ra:(Tryz.prog.info? 227).map (fun i=>(i.zero,i.size,i.bytes))=some (some (.agg #[Iz 0,Iz 0]),2,16):=by kernel_rfl
theorem nM:kA Tryz.prog 192 227 (.agg #[Iz 0,Iz 0]) 2 16:=
 ⟨Tryz.underlying192,let ⟨i,h,D,I,J⟩:=info_parts Tryz.Ra;⟨i,h,D,I,J⟩,rfl,ae,ae⟩
def xq (w w':World) (e:TypeId) (size:Nat) (A:Option Addr) (n:Nat) (xs:List Value) (x:Ending):Prop:=
 ∃A' c',x= .returned (.slice A' n c')∧w'.ownsRow w.heap.size e size (.slice A' n c') n xs∧(A=none∨∃g,A'=some ⟨g,0,none⟩∧w.heap.size≤g)∧Bz w w'
theorem xr (h:Cells w none xs) (I:xs.length=n*size) (hs:0<size):n=0/\xs=[]:=by
 have hx:xs=[]:=by
  refine ny fun D=>?_;obtain⟨b,o,he,_⟩:=h D
  cases he
 subst hx;refine⟨?_,rfl⟩;rcases jF n with D|D
 ·exact D
 ·have:=Nat.mul_pos D hs
  simp at I;omega
theorem KF (A:Option Addr) (n c:Nat) (xs:List Value) (w:World) (hn:xs.length=n*8) (O:n<=1000000) (hA:Cells w A xs) (h1:∀u∈xs,u.oneCell'=true) (D:A=none->c=0):
  Wz 157 #[.slice A n c] w fun e w'=>xq w w' 253 8 A n xs e:=by
 rcases A with _|a
 ·obtain⟨rfl,rfl⟩:=xr hA hn ae
  obtain rfl:=D rfl;have D:=Lib.run_eql_slice_nil (P:=Tryz.prog) w 241 253 none 0 0 0 0 Tryz.underlying241
  go_enter Tryz.func157,Tryz.ntmps157
  go_wp2;go_ret;exact⟨none,0,rfl,aM _ _ _ _, .inl rfl,aa _ _⟩
 ·have D:=Lib.run_eql_slice_nil (P:=Tryz.prog) w 241 253 (some a) n c 0 0 Tryz.underlying241
  have HN:=ao hn;clear hn
  go_enter Tryz.func157,Tryz.ntmps157
  go_wp2_with (at_builtin
               refine lK KE (cI (base:=w.heap.size) w #[] 0 (af _) (aB _) rfl) (news:=xs) rfl _ _ rfl rfl rfl HN (hA.alloc _) h1 ae bT n xs ae bT ?_;intro A' c' w2 J)
  go_ret;refine⟨A',c',rfl,J.own, .inr ?_,J.below _ _ (af _) (au (aa _ _) _)⟩;rcases J.jV with O|O
  ·rcases J.own.2 with⟨I,_⟩|⟨g,cap,cur,hv,hb,_⟩
   ·injection I with I;subst I;simp[Value.ownBlock] at O
   ·injection hv with hv;exact⟨g,hv,hb⟩
  ·rcases J.own.2 with⟨I,_⟩|⟨g,cap,cur,hv,hb,_⟩
   ·injection I with I;subst I;simp[Value.ownBlock] at O
   ·injection hv with hv;exact⟨g,hv,hb⟩
theorem KG (A:Option Addr) (n c:Nat) (xs:List Value) (w:World) (hn:xs.length=n*4) (O:n<=1000000) (hA:Cells w A xs) (h1:∀u∈xs,u.oneCell'=true) (D:A=none->c=0):
  Wz 158 #[.slice A n c] w fun e w'=>xq w w' 273 4 A n xs e:=by
 rcases A with _|a
 ·obtain⟨rfl,rfl⟩:=xr hA hn ae
  obtain rfl:=D rfl;have D:=Lib.run_eql_slice_nil (P:=Tryz.prog) w 242 273 none 0 0 0 0 Tryz.underlying242
  go_enter Tryz.func158,Tryz.ntmps158
  go_wp2;go_ret;exact⟨none,0,rfl,aM _ _ _ _, .inl rfl,aa _ _⟩
 ·have D:=Lib.run_eql_slice_nil (P:=Tryz.prog) w 242 273 (some a) n c 0 0 Tryz.underlying242
  have HN:=ao hn;clear hn
  go_enter Tryz.func158,Tryz.ntmps158
  go_wp2_with (at_builtin
               refine lK Vs (cI (base:=w.heap.size) w #[] 0 (af _) (aB _) rfl) (news:=xs) rfl _ _ rfl rfl rfl HN (hA.alloc _) h1 ae bT n xs ae bT ?_;intro A' c' w2 J)
  go_ret;refine⟨A',c',rfl,J.own, .inr ?_,J.below _ _ (af _) (au (aa _ _) _)⟩;rcases J.jV with O|O
  ·rcases J.own.2 with⟨I,_⟩|⟨g,cap,cur,hv,hb,_⟩
   ·injection I with I;subst I;simp[Value.ownBlock] at O
   ·injection hv with hv;exact⟨g,hv,hb⟩
  ·rcases J.own.2 with⟨I,_⟩|⟨g,cap,cur,hv,hb,_⟩
   ·injection I with I;subst I;simp[Value.ownBlock] at O
   ·injection hv with hv;exact⟨g,hv,hb⟩
theorem AQ (A:Option Addr) (n c:Nat) (xs:List Value) (w:World) (hn:xs.length=n*2) (O:n<=1000000) (hA:Cells w A xs) (h1:∀u∈xs,u.oneCell'=true) (D:A=none->c=0):
  Wz 130 #[.slice A n c] w fun e w'=>xq w w' 227 2 A n xs e:=by
 rcases A with _|a
 ·obtain⟨rfl,rfl⟩:=xr hA hn ae
  obtain rfl:=D rfl;have D:=Lib.run_eql_slice_nil (P:=Tryz.prog) w 192 227 none 0 0 0 0 Tryz.underlying192
  go_enter Tryz.func130,Tryz.ntmps130
  go_wp2;go_ret;exact⟨none,0,rfl,aM _ _ _ _, .inl rfl,aa _ _⟩
 ·have D:=Lib.run_eql_slice_nil (P:=Tryz.prog) w 192 227 (some a) n c 0 0 Tryz.underlying192
  have HN:=ao hn;clear hn
  go_enter Tryz.func130,Tryz.ntmps130
  go_wp2_with (at_builtin
               refine lK nM (cI (base:=w.heap.size) w #[] 0 (af _) (aB _) rfl) (news:=xs) rfl _ _ rfl rfl rfl HN (hA.alloc _) h1 ae bT n xs ae bT ?_;intro A' c' w2 J)
  go_ret;refine⟨A',c',rfl,J.own, .inr ?_,J.below _ _ (af _) (au (aa _ _) _)⟩;rcases J.jV with O|O
  ·rcases J.own.2 with⟨I,_⟩|⟨g,cap,cur,hv,hb,_⟩
   ·injection I with I;subst I;simp[Value.ownBlock] at O
   ·injection hv with hv;exact⟨g,hv,hb⟩
  ·rcases J.own.2 with⟨I,_⟩|⟨g,cap,cur,hv,hb,_⟩
   ·injection I with I;subst I;simp[Value.ownBlock] at O
   ·injection hv with hv;exact⟨g,hv,hb⟩
def YG (w w':World) (X:qd) (e:Ending):Prop:=
 ∃a gs rq,e= .returned (Pz a)∧cY w' a gs rq X∧(∀k,qA a gs rq k→w.heap.size≤k)∧Bz w w'
theorem oh {base:Nat} {e:TypeId} {c:Nat} (h:w.ownsRow base e size (.slice A n c) n xs):A=none->c=0:=by
 rintro rfl;rcases h.2 with⟨D,_⟩|⟨g,cap,cur,hv,_⟩
 ·injection D
 ·injection hv with hv;cases hv
theorem OC (a gs:Nat) (rq:Option Nat) (X:qd) (w:World) (h:cY w a gs rq X):
  Wz 128 #[Pz a] w fun e w'=>YG w w' X e:=by
 obtain⟨Aq,cq,cs,c0,c1,c2,ay,hq,bf⟩:=h.F8;have a0:=h.lt a (.inl rfl);obtain⟨a6,a7⟩:=h.Vr;have d0:∀u,aR w.drew u->Cz u a 0 (.slice (some ⟨gs,0,none⟩) X.slots.length cs):=fun u hu=>Yb hu a0 c0;have d1:∀u,aR w.drew u->Cz u a 1 (.slice Aq X.H.length cq):=fun u hu=>Yb hu a0 c1;have d2:∀u,aR w.drew u->Cz u a 2 (Iz X.free):=fun u hu=>Yb hu a0 c2;obtain⟨bE,HQ,cS,cQ⟩:=mh ay hq (dP.O ay) (dP.O hq);obtain⟨S,eS⟩:=Zn X.slots.length;obtain⟨N,eN⟩:=Zn X.H.length;rw[<-eS] at d0 a6;rw[<-eN] at d1 a7;have a2:=oh hq;obtain⟨ES,EN⟩:=dF eS eN;clear c0 c1 c2 ay hq bf eS eN
 go_enter Tryz.func128,Tryz.ntmps128
 go_wp2_with fail;refine Zg [4,9,15] [0,1,2,3,5,6,7,8,10,11,12,13,4,9,14,15,16] ?_;refine Yt ?_;clear d0 d1 d2;refine Ym fun K hK=>?_;refine(KF (some ⟨gs,0,none⟩) S cs (nL X.slots) _ (ES.h▸dX cU.bG _) ae (cS.below (aS (aa _ _))) (OB _) (by intro h;cases h)).mono ?_;rintro e w1⟨A1,bh,rfl,I,a8,b1⟩;obtain⟨g1,rfl,bp⟩:∃g,A1=some ⟨g,0,none⟩/\w.heap.size<=g:=by
  rcases a8 with h0|h0
  ·cases h0
  ·exact h0
 refine Yo hK (b1) ?_;have B1:Bz w w1:=aS (aa _ _)|>.trans b1
 have ba:=cQ.h.below B1;have bb:=ao I;clear a8 b1 I;refine Ym fun K hK=>?_;refine(KG Aq N cq (vP X.H) _ (EN.h▸dX jl.bG _) ae ba (Q8 _) a2).mono ?_;rintro e w2⟨A2,bc,rfl,J,bt,b2⟩;refine Yo hK (b2) ?_;have B2:=dW B1 b2;have D:=bP bb b2;obtain⟨a5,ax⟩:=dF D J;have bH:=B1.size;clear J D b2 bt ba;refine Yt ?_;refine Ym fun K hK=>?_;refine Yo hK ((aa _ _).alloc (af _) _) ?_;refine Yt ?_;refine aT ?_;go_wp2_with fail;go_ret;refine⟨w2.heap.size,g1,(Value.slice A2 N bc).ownBlock,rfl,⟨⟨A2,bc,bh,?_,?_,by rw[EN.h],?_⟩,h.Vr⟩,?_,au B2 _⟩
 ·rw[<-EN.h,<-ES.h];exact heap_alloc_new _ _
 ·rw[<-EN.h];exact ch (ax.alloc _) (aB _)
 ·rw[<-ES.h];exact ch (a5.alloc _) (aB _)
 ·rintro k (rfl|rfl|hk)
  ·have:=B2.size;omega
  ·exact bp
  ·have:=(ax.lt k hk.symm).1
   omega
def F9 (n:Nat):qd:=⟨List.replicate n .zero,[],n⟩
theorem tO (n:Nat):(F9 n).slots.length=n:=by simp[F9]
theorem Rb (hn:n=250) (aK:Nat->dn):fB (F9 n) [] aK:=by
 refine⟨rfl,fun n L h=>by simp at h,fun n L j i h=>by simp at h,fun i hi _=>?_,fun n L j D I J i h=>by simp at h,by simp[F9,oQ],by simp[F9],fun n L i h=>by simp at h,(tO n).trans hn⟩;rw[tO] at hi;show(List.replicate n cU.zero)[i]?=_;rw[gM,if_pos hi]
theorem KH (n:Nat):(madeCells (Value.agg #[.bool false,Iz 0,Iz 0,Iz 0, .bool false,Iz 0,Iz 0,Iz 0]).cells (n*8)).toList=nL (List.replicate n .zero):=by
 apply fA;intro j
 by_cases I:j<n*8
 ·have J:(nL (List.replicate n cU.zero))[j]?=(cU.zero).cells[j % 8]?:=by
   have:=ig cU.bG (l:=List.replicate n cU.zero) (i:=j / 8) (x:= .zero) (j % 8) (oF _ ae) (by rw[gM,if_pos ae]);rw[(ae:j / 8*8+j % 8=j)] at this;exact this
  rw[J];have D:j % 8<8:=oF _ ae;have O:(madeCells (Value.agg #[.bool false,Iz 0,Iz 0,Iz 0, .bool false,Iz 0,Iz 0,Iz 0]).cells (n*8)).toList[j]?=some ((Value.agg #[.bool false,Iz 0,Iz 0,Iz 0, .bool false,Iz 0,Iz 0,Iz 0]).cells[j % 8]!):=by
   simp[madeCells,I,Value.cells]
  rw[O];obtain⟨m,hm⟩:=Zn (j % 8);rw[<-hm] at D⊢
  match m,D with
  |0,_=>rfl
  |1,_=>rfl
  |2,_=>rfl
  |3,_=>rfl
  |4,_=>rfl
  |5,_=>rfl
  |6,_=>rfl
  |7,_=>rfl
 ·rw[cO (by simp[madeCells];omega),cO (by unfold nL;rw[dX cU.bG];simp;omega)]
theorem Rc (w:World):Wz 106 #[Iz 250] w fun e w'=> ∃a gs rq,e= .returned (.tuple #[Pz a,Iz 0])/\cY w' a gs rq (F9 250)/\(∀k,qA a gs rq k->w.heap.size<=k)/\Bz w w':=by
 obtain⟨i,hi,hz,D,I⟩:=KE.info;have O:∀w:World,(Instr.makeSlice 241 (Iz 250) (Iz 250)).run Tryz.prog w= .ok (.slice (some ⟨w.heap.size,0,none⟩) 250 250) (w.alloc (.cells (madeCells (Value.agg #[.bool false,Iz 0,Iz 0,Iz 0, .bool false,Iz 0,Iz 0,Iz 0]).cells (250*8)) 253)):=fun w=>by
  have hr:=run_make (P:=Tryz.prog) w 241 253 i _ KE.under hi hz .i64 .i64 250 250 ae ae (by rw[I];decide) ae;rw[D] at hr;exact hr
 obtain⟨M,eM⟩:=Zn (madeCells (Value.agg #[.bool false,Iz 0,Iz 0,Iz 0, .bool false,Iz 0,Iz 0,Iz 0]).cells (250*8));rw[<-eM] at O;have EM:=ao eM;clear hi hz D I eM
 go_enter Tryz.func106,Tryz.ntmps106
 go_wp2_with fail
 go_ret2
 have J:(w.alloc (.cells M 253)).ownsRow 0 253 8 (.slice (some ⟨w.heap.size,0,none⟩) 250 250) 250 (nL (F9 250).slots):=by
  have:=cI (base:=0) (size:=8) (e:=253) w M 250 (aB _) (by decide) (EM.h▸size_madeCells _ _);rw[EM.h,KH] at this;rw[EM.h];exact this
 refine⟨w.heap.size+1,w.heap.size,none,bT,⟨⟨none,0,250,?_,aM _ _ _ _,rfl,?_⟩,by rw[tO];exact⟨by decide,by show 0<=1000000;decide⟩⟩,?_,au (au (aa _ _) _) _⟩
 ·have:=heap_alloc_new (w.alloc (.cells M 253)) (.cells #[.slice (some ⟨w.heap.size,0,none⟩) 250 250, .slice none 0 0,Iz 250] 244)
  rw[tO];rw[show(w.alloc (.cells M 253)).heap.size=w.heap.size+1 by simp] at this;exact this
 ·rw[tO];exact J.alloc _
 ·rintro k (rfl|rfl|hk)
  ·omega
  ·omega
  ·cases hk
end Go.Proofs.YtbaaheidifacaaaGreat
