import Derived.Test.YtbaaheidifacaaaGreatQGrow
import Derived.Test.YtbaaheidifacaaaGreatRows
import Derived.Deep.DeepCutAuto
import Derived.Deep.CutBlock
import Derived.StillTailTactics
set_option linter.defProp false
set_option linter.unusedVariables false
set_option linter.unusedSimpArgs false
set_option maxRecDepth 100000
set_option maxHeartbeats 12800000
namespace Go.Proofs.YtbaaheidifacaaaGreat
variable {F:Nat→Prop} {L:List Nat} {Ls:List (List Nat)} {X:qd} {a gs i j n:Nat} {aK:Nat→dn} {l:List jl} {q:jl} {rq:Option Nat} {s:cU} {w w':World}
open Go.RowKit
def cU.cells (s:cU):List Value:=[.bool s.used,Iz s.slot,Iz s.id,Iz s.aw, .bool s.top,Iz s.queue,Iz s.ahead,Iz s.back]
def jl.cells (q:jl):List Value:=[Iz q.first,Iz q.last,Iz q.total,Iz q.count]
theorem cU.bG (s:cU):s.cells.length=8:=rfl
theorem jl.bG (q:jl):q.cells.length=4:=rfl
def nL (l:List cU):List Value:=l.flatMap cU.cells
def vP (l:List jl):List Value:=l.flatMap jl.cells
structure cY (w:World) (a gs:Nat) (rq:Option Nat) (X:qd):Prop where
 D:∃Aq cq cs,w.heap[a]?=some (.cells #[.slice (some ⟨gs,0,none⟩) X.slots.length cs, .slice Aq X.H.length cq,Iz X.free] 244 (0,0))∧
  w.ownsRow 0 273 4 (.slice Aq X.H.length cq) X.H.length (vP X.H)∧rq=(Value.slice Aq X.H.length cq).ownBlock∧
  w.ownsRow 0 253 8 (.slice (some ⟨gs,0,none⟩) X.slots.length cs) X.slots.length (nL X.slots)
 Vr:X.slots.length≤4096∧X.H.length≤1000000
def qA (a gs:Nat) (rq:Option Nat) (k:Nat):Prop:=k=a∨k=gs∨some k=rq
theorem cY.same (h:cY w a gs rq X) (D:∀k,qA a gs rq k->w'.heap[k]?=w.heap[k]?):cY w' a gs rq X:=by
 obtain⟨⟨Aq,cq,cs,J,O,I,h4⟩,h5⟩:=h;exact⟨⟨Aq,cq,cs,(D a (.inl rfl)).trans J,aX O fun g hg=>D g (.inr (.inr (by rw[I,hg]))),I,uX h4 (D gs (.inr (.inl rfl)))⟩,h5⟩
theorem cY.lt (h:cY w a gs rq X):∀k,qA a gs rq k->k<w.heap.size:=by
 obtain⟨⟨Aq,cq,cs,D,I,J,O⟩,h5⟩:=h;rintro k (rfl|rfl|hk)
 ·exact(aU.1 D).1
 ·obtain⟨_,cur,hg,_⟩:=ju O
  exact(aU.1 hg).1
 ·exact(I.lt k (by rw[<-J,<-hk])).2
theorem cY.below (h:cY w a gs rq X) (D:Bz w w'):cY w' a gs rq X:=
 h.same fun k I=>D.block k (h.lt k I)
theorem cY.slots (h:cY w a gs rq X):∃cs,w.ownsRow 0 253 8 (.slice (some ⟨gs,0,none⟩) X.slots.length cs) X.slots.length (nL X.slots):=by
 obtain⟨⟨Aq,cq,cs,I,J,O,D⟩,h5⟩:=h;exact⟨cs,D⟩
theorem cY.slot (h:cY w a gs rq X) (hs:X.slots[i]?=some s):
  w.cell? ⟨gs,i*8,none⟩=some (.bool s.used)/\w.cell? ⟨gs,i*8+1,none⟩=some (Iz s.slot)/\w.cell? ⟨gs,i*8+2,none⟩=some (Iz s.id)/\w.cell? ⟨gs,i*8+3,none⟩=some (Iz s.aw)/\
  w.cell? ⟨gs,i*8+4,none⟩=some (.bool s.top)/\w.cell? ⟨gs,i*8+5,none⟩=some (Iz s.queue)/\w.cell? ⟨gs,i*8+6,none⟩=some (Iz s.ahead)/\w.cell? ⟨gs,i*8+7,none⟩=some (Iz s.back):=by
 obtain⟨cs,D⟩:=h.slots;have key:∀(j:Nat) (v:Value),j<8->s.cells[j]?=some v->Cz w gs (i*8+j) v:=fun j v I hv=>dI D ((ig cU.bG j I hs).trans hv);exact⟨key 0 _ ae rfl,key 1 _ ae rfl,key 2 _ ae rfl,key 3 _ ae rfl,key 4 _ ae rfl,key 5 _ ae rfl,key 6 _ ae rfl,key 7 _ ae rfl⟩
theorem cY.fields (h:cY w a gs rq X):∃Aq cq cs,w.cell? ⟨a,0,none⟩=some (.slice (some ⟨gs,0,none⟩) X.slots.length cs)/\w.cell? ⟨a,1,none⟩=some (.slice Aq X.H.length cq)/\w.cell? ⟨a,2,none⟩=some (Iz X.free)/\
  w.ownsRow 0 273 4 (.slice Aq X.H.length cq) X.H.length (vP X.H)/\rq=(Value.slice Aq X.H.length cq).ownBlock/\
  (∀(n:Nat) (q:jl),X.H[n]?=some q->∃D,rq=some D/\Aq=some ⟨D,0,none⟩/\w.cell? ⟨D,n*4,none⟩=some (Iz q.first)/\w.cell? ⟨D,n*4+1,none⟩=some (Iz q.last)/\w.cell? ⟨D,n*4+2,none⟩=some (Iz q.total)/\w.cell? ⟨D,n*4+3,none⟩=some (Iz q.count)):=by
 obtain⟨⟨Aq,cq,cs,I,J,O,h4⟩,h5⟩:=h;refine⟨Aq,cq,cs,by simp[World.cell?,I],by simp[World.cell?,I],by simp[World.cell?,I],J,O,fun n q hq=>?_⟩;have hn:n<X.H.length:=aO hq;obtain⟨D,hA,_,_⟩:=kz J ae;subst hA;have key:∀(j:Nat) (v:Value),j<4->q.cells[j]?=some v->Cz w D (n*4+j) v:=fun j v hj hv=>dI J ((ig jl.bG j hj hq).trans hv);exact⟨D,O,rfl,key 0 _ ae rfl,key 1 _ ae rfl,key 2 _ ae rfl,key 3 _ ae rfl⟩
theorem cY.iK (h:cY w a gs rq X):∃Aq cq cs,w.cell? ⟨a,0,none⟩=some (.slice (some ⟨gs,0,none⟩) X.slots.length cs)/\w.cell? ⟨a,1,none⟩=some (.slice Aq X.H.length cq)/\w.cell? ⟨a,2,none⟩=some (Iz X.free)/\
  (∀(n:Nat) (q:jl),X.H[n]?=some q->∃D,rq=some D/\Aq=some ⟨D,0,none⟩/\w.cell? ⟨D,n*4,none⟩=some (Iz q.first)/\w.cell? ⟨D,n*4+1,none⟩=some (Iz q.last)/\w.cell? ⟨D,n*4+2,none⟩=some (Iz q.total)/\w.cell? ⟨D,n*4+3,none⟩=some (Iz q.count)):=by
 obtain⟨Aq,cq,cs,I,c1,c2,_,_,J⟩:=h.fields;exact⟨Aq,cq,cs,I,c1,c2,J⟩
theorem zT (a gs:Nat) (rq:Option Nat) (X:qd) (n:Int) (w:World) (h:cY w a gs rq X) (b:Bool) (D:b=decide (0<=n/\n<X.H.length)):
  Wz 179 #[Pz a,Iz n] w fun e w'=>e= .returned (.bool b)/\w=w':=by
 obtain⟨Aq,cq,cs,O,c1,c2,_⟩:=h.fields
 by_cases I:0<=n
 ·by_cases J:n<X.H.length
  ·have e:b=true:=by rw[D];exact decide_eq_true ⟨I,J⟩
   clear D;subst e
   go_enter Tryz.func179,Tryz.ntmps179
   go_wp2;go_ret;exact⟨rfl,rfl⟩
  ·have e:b=false:=by rw[D];exact decide_eq_false fun h=>J h.2
   clear D;subst e
   go_enter Tryz.func179,Tryz.ntmps179
   go_wp2;go_ret;exact⟨rfl,rfl⟩
 ·have e:b=false:=by rw[D];exact decide_eq_false fun h=>I h.1
  clear D;subst e
  go_enter Tryz.func179,Tryz.ntmps179
  go_wp2;go_ret;exact⟨rfl,rfl⟩
theorem qZ (a gs:Nat) (rq:Option Nat) (X:qd) (i:Nat) (s:cU) (w:World) (h:cY w a gs rq X) (hs:X.slots[i]?=some s) (v:Value) (hv:v=if s.used then .pointer (some ⟨gs,i*8,none⟩) else .pointer none):
  Wz 148 #[Pz a,Iz (i:Int)] w fun e w'=>e= .returned v/\w=w':=by
 obtain⟨Aq,cq,cs,D,c1,c2,_⟩:=h.fields;obtain⟨s0,s1,s2,I,J,O,s6,s7⟩:=h.slot hs;have hi:i<X.slots.length:=aO hs;have i0:¬(i:Int)<0:=ae;have i1:(i:Int)<X.slots.length:=ae;have i2:¬(X.slots.length:Int)<=i:=ae;obtain⟨u,hu⟩:=Zn s.used;rw[<-hu] at hv s0;clear hu hs
 cases u with
 |false=>
  have e:v= .pointer none:=by rw[hv];rfl
  clear hv;subst e
  go_enter Tryz.func148,Tryz.ntmps148
  go_wp2;go_ret;exact⟨rfl,rfl⟩
 |true=>
  have e:v= .pointer (some ⟨gs,i*8,none⟩):=by rw[hv];rfl
  clear hv;subst e
  go_enter Tryz.func148,Tryz.ntmps148
  go_wp2;go_ret;exact⟨rfl,rfl⟩
theorem KC (a gs:Nat) (rq:Option Nat) (X:qd) (n:Nat) (q:jl) (w:World) (h:cY w a gs rq X) (hq:X.H[n]?=some q):
  Wz 160 #[Pz a,Iz (n:Int)] w fun e w'=>e= .returned (Iz q.total)/\w=w':=by
 obtain⟨Aq,cq,cs,I,c1,c2,_,_,D⟩:=h.fields;obtain⟨J,_,rfl,q0,q1,q2,O⟩:=D n q hq;have hn:n<X.H.length:=aO hq;clear D
 go_enter Tryz.func160,Tryz.ntmps160
 go_wp2_with fail;refine(zT a gs rq X n _ h true (by symm;apply decide_eq_true;omega)).mono ?_;rintro e w'⟨rfl,rfl⟩;go_wp2_with fail;go_ret;exact⟨rfl,rfl⟩
theorem wK (a gs:Nat) (rq:Option Nat) (X:qd) (n:Nat) (q:jl) (w:World) (h:cY w a gs rq X) (hq:X.H[n]?=some q):
  Wz 161 #[Pz a,Iz (n:Int)] w fun e w'=>e= .returned (Iz q.count)/\w=w':=by
 obtain⟨Aq,cq,cs,I,c1,c2,_,_,D⟩:=h.fields;obtain⟨J,_,rfl,q0,q1,q2,O⟩:=D n q hq;have hn:n<X.H.length:=aO hq;clear D
 go_enter Tryz.func161,Tryz.ntmps161
 go_wp2_with fail;refine(zT a gs rq X n _ h true (by symm;apply decide_eq_true;omega)).mono ?_;rintro e w'⟨rfl,rfl⟩;go_wp2_with fail;go_ret;exact⟨rfl,rfl⟩
theorem cY.frozen (h:cY w a gs rq X) (j:Nat):w.frozen? ⟨a,j,none⟩=false:=by
 obtain⟨⟨Aq,cq,cs,D,_⟩,_⟩:=h;simp[World.frozen?,D]
theorem cY.gH (h:cY w a gs rq X) (j:Nat):w.frozen? ⟨gs,j,none⟩=false:=by obtain⟨cs,hs⟩:=h.slots;exact fJ hs j
theorem cY.fK {J:Nat} (h:cY w a gs rq X) (hq:rq=some J) (j:Nat):w.frozen? ⟨J,j,none⟩=false:=by
 obtain⟨⟨Aq,cq,cs,h1,O,D,_⟩,_⟩:=h;rcases O.2 with⟨I,_⟩|⟨g,cap,cur,hv,_,hg,_⟩
 ·injection I with I;subst I;rw[hq] at D;cases D
 ·injection hv with hA;subst hA
  rw[hq] at D;injection D with D;subst D
  simp[World.frozen?,hg]
theorem cY.ne (h:cY w a gs rq X):a≠gs/\(∀O,rq=some O->a≠O/\gs≠O):=by
 obtain⟨⟨Aq,cq,cs,h1,h2,I,h4⟩,_⟩:=h;obtain⟨_,cur,hg,_⟩:=ju h4;refine⟨?_,fun O hq=>?_⟩
 ·rintro rfl
  rw[h1] at hg;injection hg with hg;injection hg with _ J;exact absurd J (by decide)
 ·rcases h2.2 with⟨h0,_⟩|⟨g,cap,ax,hv,_,D,_⟩
  ·injection h0 with h0;subst h0;rw[hq] at I;cases I
  ·injection hv with hA;subst hA
   rw[hq] at I;injection I with I;subst I
   constructor
   ·rintro rfl
    rw[h1] at D;injection D with D;injection D with _ J;exact absurd J (by decide)
   ·rintro rfl
    rw[hg] at D;injection D with D;injection D with _ J;exact absurd J (by decide)
theorem cY.kV (h:cY w a gs rq X) {s':cU} (hs:X.slots[i]?=some s) (D:j<8) (u:Value) (hu:s'.cells=s.cells.set j u):
  cY (w.setCell ⟨gs,i*8+j,none⟩ u) a gs rq ⟨X.slots.set i s',X.H,X.free⟩:=by
 obtain⟨n1,n2⟩:=h.ne;obtain⟨⟨Aq,cq,cs,O,h2,J,h4⟩,h5⟩:=h;refine⟨⟨Aq,cq,cs,?_,aX h2 fun g hg=>av _ _ _ _ fun e=>(n2 g (by rw[J,hg])).2 e.symm,J,?_⟩,by simpa using h5⟩
 ·rw[av _ _ _ _ n1,O]
  simp
 ·have I:=(ig cU.bG j D hs)
  obtain⟨v,hv⟩:∃v,s.cells[j]?=some v:=⟨s.cells[j]'(by rw[cU.bG];exact D),aj _⟩;have:=jM h4 (I.trans hv) u;unfold nL at this;rw[tI cU.bG D hs hu] at this;simpa[nL,vP] using this
theorem cY.iP {D:Nat} (h:cY w a gs rq X) (hr:rq=some D) {q':jl} (hq:X.H[n]?=some q) (J:j<4) (u:Value) (hu:q'.cells=q.cells.set j u):
  cY (w.setCell ⟨D,n*4+j,none⟩ u) a gs rq ⟨X.slots,X.H.set n q',X.free⟩:=by
 obtain⟨n1,n2⟩:=h.ne;obtain⟨n3,n4⟩:=n2 D hr;obtain⟨⟨Aq,cq,cs,h1,h2,I,h4⟩,h5⟩:=h;have hn:n<X.H.length:=aO hq;obtain⟨g,hA,_,_⟩:=kz h2 ae;subst hA;rw[hr] at I;injection I with I;subst I;refine⟨⟨some ⟨D,0,none⟩,cq,cs,?_,?_,by rw[hr];rfl,uX h4 (av _ _ _ _ n4)⟩,by simpa using h5⟩
 ·rw[av _ _ _ _ n3,h1]
  simp
 ·have O:=(ig jl.bG j J hq)
  obtain⟨v,hv⟩:∃v,q.cells[j]?=some v:=⟨q.cells[j]'(by rw[jl.bG];exact J),aj _⟩;have:=jM h2 (O.trans hv) u;unfold vP at this;rw[tI jl.bG J hq hu] at this;simpa[nL,vP] using this
theorem cY.AN (h:cY w a gs rq X) (f:Int):cY (w.setCell ⟨a,2,none⟩ (Iz f)) a gs rq ⟨X.slots,X.H,f⟩:=by
 obtain⟨n1,n2⟩:=h.ne;obtain⟨⟨Aq,cq,cs,I,J,D,O⟩,h5⟩:=h;refine⟨⟨Aq,cq,cs,?_,aX J fun g hg=>av _ _ _ _ fun e=>(n2 g (by rw[D,hg])).1 e.symm,D,uX O (av _ _ _ _ fun e=>n1 e.symm)⟩,h5⟩;rw[heap_setCell_same _ _ _ _ _ _ I];rfl
theorem Q5 (a gs:Nat) (rq:Option Nat) (X:qd) (i:Nat) (s:cU) (t:Bool) (w:World) (h:cY w a gs rq X) (hs:X.slots[i]?=some s) (hu:s.used=true):
  Wz 184 #[Pz a,Iz (i:Int), .bool t] w fun e w'=>e= .returned (Iz 0)/\cY w' a gs rq ⟨X.slots.set i {s with top:=t},X.H,X.free⟩/\Lv (qA a gs rq) w w':=by
 have D:=h.gH (i*8+4);obtain⟨s0,s1,s2,I,J,O,s6,s7⟩:=h.slot hs;have fin:=h.kV (s':={s with top:=t}) hs (j:=4) ae (.bool t) rfl
 go_enter Tryz.func184,Tryz.ntmps184
 go_wp2_with fail;refine(qZ a gs rq X i s _ h hs (.pointer (some ⟨gs,i*8,none⟩)) (by rw[hu];rfl)).mono ?_;rintro e w'⟨rfl,rfl⟩;go_wp2_with fail;go_ret;exact⟨rfl,fin,(Lv.refl _ _).setCell (.inr (.inl rfl)) _⟩
theorem xo {α:Type} {l:List α} {a:α} (h:l[n]?=some a) (f:α->α):l.modify n f=l.set n (f a):=by
 apply fA;intro m
 by_cases hm:n=m
 ·subst hm
  rw[mod_eq h,aD (aO h)]
 ·rw[oJ hm,aZ hm]
theorem cY.tK (h:cY w a gs rq X) (hs:X.slots[i]?=some s) (D:j<8) (u:Value) (f:cU->cU) (hu:(f s).cells=s.cells.set j u):
  cY (w.setCell ⟨gs,i*8+j,none⟩ u) a gs rq ⟨X.slots.modify i f,X.H,X.free⟩:=by
 rw[xo hs];exact h.kV hs D u hu
theorem mod_self (h:l[n]?=some q):l.set n q=l:=by
 apply fA;intro m
 by_cases hm:n=m
 ·subst hm;rw[aD (aO h),h]
 ·rw[aZ hm]
theorem cY.drewN (h:cY w a gs rq X) (k:Nat):cY (w.drewN k) a gs rq X:=h.same fun _ _=>rfl
theorem cY.drew (h:cY w a gs rq X):cY w.drew a gs rq X:=h.same fun _ _=>rfl
def vQ (w:World) (gs i:Nat) (s:cU):World:=
 (((((((w.setCell ⟨gs,i*8,none⟩ (.bool s.used)).setCell ⟨gs,i*8+1,none⟩ (Iz s.slot)).setCell ⟨gs,i*8+2,none⟩ (Iz s.id)).setCell ⟨gs,i*8+3,none⟩ (Iz s.aw)).setCell ⟨gs,i*8+4,none⟩ (.bool s.top)).setCell
   ⟨gs,i*8+5,none⟩ (Iz s.queue)).setCell ⟨gs,i*8+6,none⟩ (Iz s.ahead)).setCell ⟨gs,i*8+7,none⟩ (Iz s.back)
theorem tL (h:Lv F w w') (hg:F gs) (i:Nat) (s:cU):Lv F w (vQ w' gs i s):=
 (((((((h.setCell (p:=⟨gs,_,none⟩) hg _).setCell (p:=⟨gs,_,none⟩) hg _).setCell (p:=⟨gs,_,none⟩) hg _).setCell (p:=⟨gs,_,none⟩) hg _).setCell (p:=⟨gs,_,none⟩) hg _).setCell (p:=⟨gs,_,none⟩) hg _).setCell (p:=⟨gs,_,none⟩) hg _).setCell (p:=⟨gs,_,none⟩) hg _
theorem cY.fill (h:cY w a gs rq X) (hs:X.slots[i]?=some s) (t:cU):cY (vQ w gs i t) a gs rq ⟨X.slots.set i t,X.H,X.free⟩:=by
 have hi:i<X.slots.length:=aO hs;have k0:=h.kV (s':=⟨t.used,s.slot,s.id,s.aw,s.top,s.queue,s.ahead,s.back⟩) hs (j:=0) ae (.bool t.used) rfl;have k1:=k0.kV (s':=⟨t.used,t.slot,s.id,s.aw,s.top,s.queue,s.ahead,s.back⟩) (aD (by simpa using hi)) (j:=1) ae (Iz t.slot) rfl;have k2:=k1.kV (s':=⟨t.used,t.slot,t.id,s.aw,s.top,s.queue,s.ahead,s.back⟩) (aD (by simpa using hi)) (j:=2) ae (Iz t.id) rfl;have D:=k2.kV (s':=⟨t.used,t.slot,t.id,t.aw,s.top,s.queue,s.ahead,s.back⟩) (aD (by simpa using hi)) (j:=3) ae (Iz t.aw) rfl;have k4:=D.kV (s':=⟨t.used,t.slot,t.id,t.aw,t.top,s.queue,s.ahead,s.back⟩) (aD (by simpa using hi)) (j:=4) ae (.bool t.top) rfl;have I:=k4.kV (s':=⟨t.used,t.slot,t.id,t.aw,t.top,t.queue,s.ahead,s.back⟩) (aD (by simpa using hi)) (j:=5) ae (Iz t.queue) rfl;have J:=I.kV (s':=⟨t.used,t.slot,t.id,t.aw,t.top,t.queue,t.ahead,s.back⟩) (aD (by simpa using hi)) (j:=6) ae (Iz t.ahead) rfl;have O:=J.kV (s':=t) (aD (by simpa using hi)) (j:=7) ae (Iz t.back) rfl;unfold vQ;simpa using O
structure Q6 (X:qd) (i n:Nat) (s:cU) (q:jl):Prop where
 hs:X.slots[i]?=some s
 hq:X.H[n]?=some q
 sq:s.queue=n
 ah:s.ahead= -1∨∃(ia:Nat) (sa:cU),s.ahead=ia∧X.slots[ia]?=some sa∧ia≠i
 bk:s.back= -1∨∃(ib:Nat) (sb:cU),s.back=ib∧X.slots[ib]?=some sb∧ib≠i
 ab:∀ia ib:Nat,s.ahead=ia→s.back=ib→ia≠ib
def AO (X:qd) (i n:Nat) (s:cU) (q:jl):qd:=
 let s1:=if s.ahead= -1 then X.slots else X.slots.modify s.ahead.toNat fun x=>{x with back:=s.back}
 let s2:=if s.back= -1 then s1 else s1.modify s.back.toNat fun x=>{x with ahead:=s.ahead}
 ⟨s2.set i .zero,X.H.set n ⟨if s.ahead= -1 then s.back else q.first,if s.back= -1 then s.ahead else q.last,q.total,q.count - 1⟩,X.free+1⟩
theorem Ou (a gs:Nat) (rq:Option Nat) (X:qd) (i n:Nat) (s:cU) (q:jl) (w:World) (h:cY w a gs rq X) (hl:Q6 X i n s q) (hc:0<q.count/\q.count<=1000000) (hf:0<=X.free/\X.free<=4096):
  Wz 176 #[Pz a, .pointer (some ⟨gs,i*8,none⟩)] w fun e w'=>e= .returned (.tuple #[])/\cY w' a gs rq (AO X i n s q)/\Lv (qA a gs rq) w w':=by
 obtain⟨hs,hq,cl,cm,cn,cf⟩:=hl;obtain⟨Aq,cq,cs,c0,c1,c2,_,ct,ck⟩:=h.fields;obtain⟨O,cv,hA,q0,q1,q2,q3⟩:=ck n q hq;clear ck;subst hA;clear ct;subst cv;have hn:n<X.H.length:=aO hq;have hi:i<X.slots.length:=aO hs;have Fq:qA a gs (some O) O:= .inr (.inr rfl);have Fs:qA a gs (some O) gs:= .inr (.inl rfl);have Fa:qA a gs (some O) a:= .inl rfl;obtain⟨s0,s1,s2,s3,s4,s5,s6,s7⟩:=h.slot hs;obtain⟨su,ss,bb,bc,st,cX,sa,sb⟩:=s;obtain⟨qf,ql,qt,qc⟩:=q;simp only at*;subst cl;have dc:IntKind.i64.wrap (qc - 1)=qc - 1:=aN _ ae;have dp:IntKind.i64.wrap (X.free+1)=X.free+1:=aN _ ae;obtain⟨HS,HQ,cF,HC,HF,HI⟩:=FW hs hq cf hc hf hi;have fin:∀(S:List cU) (bt bE:Int) (w2:World),S[i]?=some ⟨su,ss,bb,bc,st,(n:Int),sa,sb⟩->cY w2 a gs (some O) ⟨S,X.H.set n ⟨bt,bE,qt,qc⟩,X.free⟩->
   cY (vQ ((w2.setCell ⟨O,n*4+3,none⟩ (Iz (qc - 1))).setCell ⟨a,2,none⟩ (Iz (X.free+1))) gs i .zero) a gs (some O) ⟨S.set i .zero,X.H.set n ⟨bt,bE,qt,qc - 1⟩,X.free+1⟩:=by
  intro S bt bE w2 hS h2;have k1:=h2.iP (q':=⟨bt,bE,qt,qc - 1⟩) rfl (n:=n) (q:=⟨bt,bE,qt,qc⟩) (aD (aO HQ)) (j:=3) ae (Iz (qc - 1)) rfl;have k2:=k1.AN (X.free+1);have k3:=k2.fill (i:=i) hS .zero;simpa using k3
 obtain⟨bR,H⟩:=dF fin h;clear fin hs hq cf hc hf hi h;have dS:(n:Int)<X.H.length:=ae
 go_enter Tryz.func176,Tryz.ntmps176
 go_wp2_with fail
 go_quiet (fail)
 obtain⟨w0,bU⟩:=Zn (w.drewN nq);rw[<-bU];have H0:Hid (cY w0 a gs (some O) X):=ao (bU▸H.drewN nq);have L0:Lv (qA a gs (some O)) w w0:=bU▸(Lv.refl _ _).drewN nq;clear bU s0 s1 s2 s3 s4 s5 s6 s7 c0 c1 c2 q0 q1 q2 q3;obtain⟨bf,bh,bp,c0,c1,c2,I⟩:=H0.h.iK;obtain⟨s0,s1,s2,s3,s4,s5,s6,s7⟩:=H0.h.slot HS;obtain⟨a0,J,_,q0,q1,q2,q3⟩:=I n _ HQ;obtain rfl:O=a0:=by injection J
 clear I J;simp only at s0 s1 s2 s3 s4 s5 s6 s7 q0 q1 q2 q3;rcases cm with ha|ha<;>rcases cn with hb|hb
 ·
  obtain rfl:=ha;obtain rfl:=hb;have fz:=H0.h.fK rfl (n*4);obtain⟨w1,ax⟩:=Zn (w0.setCell ⟨O,n*4,none⟩ (Iz (-1)));have H1:cY w1 a gs (some O) ⟨X.slots,X.H.set n ⟨(-1),ql,qt,qc⟩,X.free⟩:=ax▸H0.iP (q':=⟨(-1),ql,qt,qc⟩) rfl HQ (j:=0) ae _ rfl;have L1:Lv (qA a gs (some O)) w w1:=ax▸L0.setCell (p:=⟨O,_,none⟩) Fq _
  go_upto_region 4 with(fail)
  rw[<-ax];have a2:X.slots[i]?=some ⟨su,ss,bb,bc,st,(n:Int),(-1),(-1)⟩:=by exact HS
  clear ax fz s0 s1 s2 s3 s4 s5 s6 s7 c0 c1 c2 q0 q1 q2 q3;obtain⟨bf,bh,bp,c0,c1,c2,I⟩:=H1.iK;obtain⟨s0,s1,s2,s3,s4,s5,s6,s7⟩:=H1.slot a2;simp only at s0 s1 s2 s3 s4 s5 s6 s7 c0 c1 c2;have a7:(X.H.set n ⟨(-1),ql,qt,qc⟩)[n]?=some ⟨(-1),ql,qt,qc⟩:=by exact aD hn
  obtain⟨a0,J,_,q0,q1,q2,q3⟩:=I n _ a7;obtain rfl:O=a0:=by injection J
  simp only at q0 q1 q2 q3;clear I J;have fz:=H1.fK rfl (n*4+1);obtain⟨w2,ay⟩:=Zn (w1.setCell ⟨O,n*4+1,none⟩ (Iz (-1)));have H2:cY w2 a gs (some O) ⟨X.slots,(X.H.set n ⟨(-1),ql,qt,qc⟩).set n ⟨(-1),(-1),qt,qc⟩,X.free⟩:=ay▸H1.iP (q':=⟨(-1),(-1),qt,qc⟩) rfl a7 (j:=1) ae _ rfl;have L2:Lv (qA a gs (some O)) w w2:=ay▸L1.setCell (p:=⟨O,_,none⟩) Fq _
  go_upto_region 7 with(fail)
  rw[<-ay];have a5:X.slots[i]?=some ⟨su,ss,bb,bc,st,(n:Int),(-1),(-1)⟩:=a2;have D:cY w2 a gs (some O) ⟨X.slots,X.H.set n ⟨(-1),(-1),qt,qc⟩,X.free⟩:=by simpa using H2
  have a8:(X.H.set n ⟨(-1),(-1),qt,qc⟩:List jl)[n]?=some ⟨(-1),(-1),qt,qc⟩:=aD hn;clear ay fz H1 H2 s0 s1 s2 s3 s4 s5 s6 s7 c0 c1 c2 a2 a7 q0 q1 q2 q3;obtain⟨bf,bh,bp,c0,c1,c2,I⟩:=D.iK;obtain⟨a0,J,_,q0,q1,q2,q3⟩:=I n _ a8;obtain rfl:O=a0:=by injection J
  obtain⟨s0,s1,s2,s3,s4,s5,s6,s7⟩:=D.slot a5;simp only at c0 c1 c2 q0 q1 q2 q3 s0 s1 s2 s3 s4 s5 s6 s7;have FI:=bR.h _ _ _ w2 a5 D;have bV:=D.fK rfl (n*4+3);have b0:=D.frozen 2;have b2:=fun j=>D.gH j;have Ol:=D.ne.1;have b7:=(D.ne.2 O rfl).1;have b8:=(D.ne.2 O rfl).2;have LF:=tL ((L2.setCell (p:=⟨O,n*4+3,none⟩) Fq (Iz (qc - 1))).setCell (p:=⟨a,2,none⟩) Fa (Iz (X.free+1))) Fs i .zero;unfold vQ at FI LF;simp only[cU.zero] at FI LF;clear D I a5 a8 L1 L2;go_wp2_with fail
  go_end0
  refine⟨rfl,?_,LF⟩;unfold AO;simp only;simpa[cU.zero] using FI
 ·
  obtain rfl:=ha;obtain⟨ib,b9,rfl,ba,bH⟩:=hb;have j0:((ib:Int)== -1)=false:=bT;have j1:(ib:Int)<X.slots.length:=cA (aO ba);have cH:ib<X.slots.length:=aO ba;have fz:=H0.h.fK rfl (n*4);obtain⟨w1,ax⟩:=Zn (w0.setCell ⟨O,n*4,none⟩ (Iz (ib:Int)));have H1:cY w1 a gs (some O) ⟨X.slots,X.H.set n ⟨(ib:Int),ql,qt,qc⟩,X.free⟩:=ax▸H0.iP (q':=⟨(ib:Int),ql,qt,qc⟩) rfl HQ (j:=0) ae _ rfl;have L1:Lv (qA a gs (some O)) w w1:=ax▸L0.setCell (p:=⟨O,_,none⟩) Fq _
  go_upto_region 4 with(fail)
  rw[<-ax];have a2:X.slots[i]?=some ⟨su,ss,bb,bc,st,(n:Int),(-1),(ib:Int)⟩:=by exact HS
  clear ax fz s0 s1 s2 s3 s4 s5 s6 s7 c0 c1 c2 q0 q1 q2 q3;obtain⟨bf,bh,bp,c0,c1,c2,I⟩:=H1.iK;obtain⟨s0,s1,s2,s3,s4,s5,s6,s7⟩:=H1.slot a2;simp only at s0 s1 s2 s3 s4 s5 s6 s7 c0 c1 c2;have a7:(X.H.set n ⟨(ib:Int),ql,qt,qc⟩)[n]?=some ⟨(ib:Int),ql,qt,qc⟩:=by exact aD hn
  obtain⟨a0,J,_,q0,q1,q2,q3⟩:=I n _ a7;obtain rfl:O=a0:=by injection J
  simp only at q0 q1 q2 q3;clear I J;have fz:=H1.gH (ib*8+6);obtain⟨w2,ay⟩:=Zn ((w1.setCell ⟨gs,ib*8+6,none⟩ (Iz (-1))).drew);have bQ:X.slots[ib]?=some b9:=by exact ba
  obtain⟨_,_,_,_,_,_,t6,_⟩:=H1.slot bQ;have H2:cY w2 a gs (some O) ⟨X.slots.modify ib fun x=>{x with ahead:=(-1)},(X.H.set n ⟨(ib:Int),ql,qt,qc⟩),X.free⟩:=ay▸(H1.tK bQ (j:=6) ae _ (fun x=>{x with ahead:=(-1)}) rfl).drew;have L2:Lv (qA a gs (some O)) w w2:=ay▸(L1.setCell (p:=⟨gs,_,none⟩) Fs _).drew;go_wp2_with fail
  go_still_tail 14,(by kernel_rfl)
  go_upto_region 7 with(fail)
  rw[<-ay];have a5:(X.slots.modify ib fun x=>{x with ahead:=(-1)})[i]?=some ⟨su,ss,bb,bc,st,(n:Int),(-1),(ib:Int)⟩:=by rw[oJ bH];exact a2
  have D:cY w2 a gs (some O) ⟨(X.slots.modify ib fun x=>{x with ahead:=(-1)}),X.H.set n ⟨(ib:Int),ql,qt,qc⟩,X.free⟩:=by exact H2
  have a8:(X.H.set n ⟨(ib:Int),ql,qt,qc⟩:List jl)[n]?=some ⟨(ib:Int),ql,qt,qc⟩:=aD hn;clear ay fz H1 H2 s0 s1 s2 s3 s4 s5 s6 s7 c0 c1 c2 a2 a7 q0 q1 q2 q3;obtain⟨bf,bh,bp,c0,c1,c2,I⟩:=D.iK;obtain⟨a0,J,_,q0,q1,q2,q3⟩:=I n _ a8;obtain rfl:O=a0:=by injection J
  obtain⟨s0,s1,s2,s3,s4,s5,s6,s7⟩:=D.slot a5;simp only at c0 c1 c2 q0 q1 q2 q3 s0 s1 s2 s3 s4 s5 s6 s7;have FI:=bR.h _ _ _ w2 a5 D;have bV:=D.fK rfl (n*4+3);have b0:=D.frozen 2;have b2:=fun j=>D.gH j;have Ol:=D.ne.1;have b7:=(D.ne.2 O rfl).1;have b8:=(D.ne.2 O rfl).2;have LF:=tL ((L2.setCell (p:=⟨O,n*4+3,none⟩) Fq (Iz (qc - 1))).setCell (p:=⟨a,2,none⟩) Fa (Iz (X.free+1))) Fs i .zero;unfold vQ at FI LF;simp only[cU.zero] at FI LF;clear D I a5 a8 L1 L2;go_wp2_with fail
  go_end0
  refine⟨rfl,?_,LF⟩;unfold AO;simp only;simpa[cU.zero] using FI
 ·
  obtain⟨ia,cQ,rfl,a6,cd⟩:=ha;obtain rfl:=hb;have i0:((ia:Int)== -1)=false:=bT;have i1:(ia:Int)<X.slots.length:=cA (aO a6);have cS:ia<X.slots.length:=aO a6;have fz:=H0.h.gH (ia*8+7);obtain⟨_,_,_,_,_,_,_,t7⟩:=H0.h.slot a6;obtain⟨w1,ax⟩:=Zn ((w0.setCell ⟨gs,ia*8+7,none⟩ (Iz (-1))).drew);have H1:cY w1 a gs (some O) ⟨X.slots.modify ia fun x=>{x with back:=(-1)},X.H,X.free⟩:=ax▸(H0.tK a6 (j:=7) ae _ (fun x=>{x with back:=(-1)}) rfl).drew;have L1:Lv (qA a gs (some O)) w w1:=ax▸(L0.setCell (p:=⟨gs,_,none⟩) Fs _).drew;go_wp2_with fail
  go_still_tail 14,(by kernel_rfl)
  go_upto_region 4 with(fail)
  rw[<-ax];have a2:(X.slots.modify ia fun x=>{x with back:=(-1)})[i]?=some ⟨su,ss,bb,bc,st,(n:Int),(ia:Int),(-1)⟩:=by rw[oJ cd];exact HS
  clear ax fz s0 s1 s2 s3 s4 s5 s6 s7 c0 c1 c2 q0 q1 q2 q3;obtain⟨bf,bh,bp,c0,c1,c2,I⟩:=H1.iK;obtain⟨s0,s1,s2,s3,s4,s5,s6,s7⟩:=H1.slot a2;simp only at s0 s1 s2 s3 s4 s5 s6 s7 c0 c1 c2;have a7:X.H[n]?=some ⟨qf,ql,qt,qc⟩:=by exact HQ
  obtain⟨a0,J,_,q0,q1,q2,q3⟩:=I n _ a7;obtain rfl:O=a0:=by injection J
  simp only at q0 q1 q2 q3;clear I J;have fz:=H1.fK rfl (n*4+1);obtain⟨w2,ay⟩:=Zn (w1.setCell ⟨O,n*4+1,none⟩ (Iz (ia:Int)));have H2:cY w2 a gs (some O) ⟨(X.slots.modify ia fun x=>{x with back:=(-1)}),X.H.set n ⟨qf,(ia:Int),qt,qc⟩,X.free⟩:=ay▸H1.iP (q':=⟨qf,(ia:Int),qt,qc⟩) rfl a7 (j:=1) ae _ rfl;have L2:Lv (qA a gs (some O)) w w2:=ay▸L1.setCell (p:=⟨O,_,none⟩) Fq _
  go_upto_region 7 with(fail)
  rw[<-ay];have a5:(X.slots.modify ia fun x=>{x with back:=(-1)})[i]?=some ⟨su,ss,bb,bc,st,(n:Int),(ia:Int),(-1)⟩:=a2;have D:cY w2 a gs (some O) ⟨(X.slots.modify ia fun x=>{x with back:=(-1)}),X.H.set n ⟨qf,(ia:Int),qt,qc⟩,X.free⟩:=by exact H2
  have a8:(X.H.set n ⟨qf,(ia:Int),qt,qc⟩:List jl)[n]?=some ⟨qf,(ia:Int),qt,qc⟩:=aD hn;clear ay fz H1 H2 s0 s1 s2 s3 s4 s5 s6 s7 c0 c1 c2 a2 a7 q0 q1 q2 q3;obtain⟨bf,bh,bp,c0,c1,c2,I⟩:=D.iK;obtain⟨a0,J,_,q0,q1,q2,q3⟩:=I n _ a8;obtain rfl:O=a0:=by injection J
  obtain⟨s0,s1,s2,s3,s4,s5,s6,s7⟩:=D.slot a5;simp only at c0 c1 c2 q0 q1 q2 q3 s0 s1 s2 s3 s4 s5 s6 s7;have FI:=bR.h _ _ _ w2 a5 D;have bV:=D.fK rfl (n*4+3);have b0:=D.frozen 2;have b2:=fun j=>D.gH j;have Ol:=D.ne.1;have b7:=(D.ne.2 O rfl).1;have b8:=(D.ne.2 O rfl).2;have LF:=tL ((L2.setCell (p:=⟨O,n*4+3,none⟩) Fq (Iz (qc - 1))).setCell (p:=⟨a,2,none⟩) Fa (Iz (X.free+1))) Fs i .zero;unfold vQ at FI LF;simp only[cU.zero] at FI LF;clear D I a5 a8 L1 L2;go_wp2_with fail
  go_end0
  refine⟨rfl,?_,LF⟩;unfold AO;simp only;simpa[cU.zero] using FI
 ·
  obtain⟨ia,cQ,rfl,a6,cd⟩:=ha;obtain⟨ib,b9,rfl,ba,bH⟩:=hb;have i0:((ia:Int)== -1)=false:=bT;have i1:(ia:Int)<X.slots.length:=cA (aO a6);have cS:ia<X.slots.length:=aO a6;have j0:((ib:Int)== -1)=false:=bT;have j1:(ib:Int)<X.slots.length:=cA (aO ba);have cH:ib<X.slots.length:=aO ba;have cT:ia≠ib:=cF ia ib rfl rfl;have fz:=H0.h.gH (ia*8+7);obtain⟨_,_,_,_,_,_,_,t7⟩:=H0.h.slot a6;obtain⟨w1,ax⟩:=Zn ((w0.setCell ⟨gs,ia*8+7,none⟩ (Iz (ib:Int))).drew);have H1:cY w1 a gs (some O) ⟨X.slots.modify ia fun x=>{x with back:=(ib:Int)},X.H,X.free⟩:=ax▸(H0.tK a6 (j:=7) ae _ (fun x=>{x with back:=(ib:Int)}) rfl).drew;have L1:Lv (qA a gs (some O)) w w1:=ax▸(L0.setCell (p:=⟨gs,_,none⟩) Fs _).drew;go_wp2_with fail
  go_still_tail 14,(by kernel_rfl)
  go_upto_region 4 with(fail)
  rw[<-ax];have a2:(X.slots.modify ia fun x=>{x with back:=(ib:Int)})[i]?=some ⟨su,ss,bb,bc,st,(n:Int),(ia:Int),(ib:Int)⟩:=by rw[oJ cd];exact HS
  clear ax fz s0 s1 s2 s3 s4 s5 s6 s7 c0 c1 c2 q0 q1 q2 q3;obtain⟨bf,bh,bp,c0,c1,c2,I⟩:=H1.iK;obtain⟨s0,s1,s2,s3,s4,s5,s6,s7⟩:=H1.slot a2;simp only at s0 s1 s2 s3 s4 s5 s6 s7 c0 c1 c2;have a7:X.H[n]?=some ⟨qf,ql,qt,qc⟩:=by exact HQ
  obtain⟨a0,J,_,q0,q1,q2,q3⟩:=I n _ a7;obtain rfl:O=a0:=by injection J
  simp only at q0 q1 q2 q3;clear I J;have fz:=H1.gH (ib*8+6);obtain⟨w2,ay⟩:=Zn ((w1.setCell ⟨gs,ib*8+6,none⟩ (Iz (ia:Int))).drew);have bQ:(X.slots.modify ia fun x=>{x with back:=(ib:Int)})[ib]?=some b9:=by rw[oJ cT];exact ba
  obtain⟨_,_,_,_,_,_,t6,_⟩:=H1.slot bQ;have H2:cY w2 a gs (some O) ⟨(X.slots.modify ia fun x=>{x with back:=(ib:Int)}).modify ib fun x=>{x with ahead:=(ia:Int)},X.H,X.free⟩:=ay▸(H1.tK bQ (j:=6) ae _ (fun x=>{x with ahead:=(ia:Int)}) rfl).drew;have L2:Lv (qA a gs (some O)) w w2:=ay▸(L1.setCell (p:=⟨gs,_,none⟩) Fs _).drew;have ln:(X.slots.modify ia fun x=>{x with back:=(ib:Int)}).length=X.slots.length:=bT;rw[ln] at c0;go_wp2_with fail
  go_still_tail 14,(by kernel_rfl)
  go_upto_region 7 with(fail)
  rw[<-ay];have a5:((X.slots.modify ia fun x=>{x with back:=(ib:Int)}).modify ib fun x=>{x with ahead:=(ia:Int)})[i]?=some ⟨su,ss,bb,bc,st,(n:Int),(ia:Int),(ib:Int)⟩:=by rw[oJ bH];exact a2
  have D:cY w2 a gs (some O) ⟨((X.slots.modify ia fun x=>{x with back:=(ib:Int)}).modify ib fun x=>{x with ahead:=(ia:Int)}),X.H.set n ⟨qf,ql,qt,qc⟩,X.free⟩:=by rw[<-mod_self HQ.h] at H2;exact H2
  have a8:(X.H.set n ⟨qf,ql,qt,qc⟩:List jl)[n]?=some ⟨qf,ql,qt,qc⟩:=aD hn;clear ay fz H1 H2 s0 s1 s2 s3 s4 s5 s6 s7 c0 c1 c2 a2 a7 q0 q1 q2 q3;obtain⟨bf,bh,bp,c0,c1,c2,I⟩:=D.iK;obtain⟨a0,J,_,q0,q1,q2,q3⟩:=I n _ a8;obtain rfl:O=a0:=by injection J
  obtain⟨s0,s1,s2,s3,s4,s5,s6,s7⟩:=D.slot a5;simp only at c0 c1 c2 q0 q1 q2 q3 s0 s1 s2 s3 s4 s5 s6 s7;have FI:=bR.h _ _ _ w2 a5 D;have bV:=D.fK rfl (n*4+3);have b0:=D.frozen 2;have b2:=fun j=>D.gH j;have Ol:=D.ne.1;have b7:=(D.ne.2 O rfl).1;have b8:=(D.ne.2 O rfl).2;have LF:=tL ((L2.setCell (p:=⟨O,n*4+3,none⟩) Fq (Iz (qc - 1))).setCell (p:=⟨a,2,none⟩) Fa (Iz (X.free+1))) Fs i .zero;unfold vQ at FI LF;simp only[cU.zero] at FI LF;clear D I a5 a8 L1 L2;go_wp2_with fail
  go_end0
  refine⟨rfl,?_,LF⟩;unfold AO;simp only;simpa[cU.zero] using FI
theorem Ia (h:fB X Ls aK) {k:Nat} (I:Ls[n]?=some L) (hi:L[k]?=some i) (hs:X.slots[i]?=some s) (hq:X.H[n]?=some q):Q6 X i n s q:=by
 have D:=h.sl n L k i I hi;rw[hs] at D;injection D with D;have ax:=aO hi;refine⟨hs,hq,by rw[D],?_,?_,?_⟩
 ·rw[D]
  simp only
  cases k with
  |zero=>exact .inl rfl
  |succ m=>
   obtain⟨y,hy⟩:∃y,L[m]?=some y:=⟨L[m]'ae,aj _⟩;refine .inr ⟨y,_,jL hy,h.sl n L m y I hy,?_⟩;rintro rfl;have:=(h.inj n L m n L (m+1) y I hy I hi).2;omega
 ·rw[D]
  simp only
  cases hn:L[k+1]? with
  |none=>exact .inl (mW hn)
  |some y=>
   refine .inr ⟨y,_,jL hn,h.sl n L (k+1) y I hn,?_⟩;rintro rfl;have:=(h.inj n L (k+1) n L k y I hn I hi).2;omega
 ·intro ia ib ha O
  rw[D] at ha O;simp only at ha O;rintro rfl
  cases k with
  |zero=>simp only[fV] at ha;omega
  |succ m=>
   have J:qe L m=ia:=ha
   cases h1:L[m]? with
   |none=>rw[mW h1] at J;omega
   |some y=>
    cases h2:L[m+1+1]? with
    |none=>rw[mW h2] at O;omega
    |some z=>
     rw[jL h1] at J;rw[jL h2] at O;have:y=z:=ae;subst this;have:=(h.inj n L m n L (m+1+1) y I h1 I h2).2;omega
structure Xn (w w':World) (a gs:Nat) (rq:Option Nat) (Ls:List (List Nat)) (aK:Nat→dn) (n k i:Nat) (L:List Nat) (aw:Int):Prop where
 at_:∃X',cY w' a gs rq X'∧((aK i).aw=aw→fB X' (Ls.set n (L.eraseIdx k)) aK)∧(aw<(aK i).aw→fB X' Ls (fun x=>if x=i then {aK i with aw:=(aK i).aw - aw} else aK x))
 lv:Lv (qA a gs rq) w w'
theorem Ej (a gs:Nat) (rq:Option Nat) (X:qd) (Ls:List (List Nat)) (aK:Nat->dn) (n k i:Nat) (L:List Nat) (aw:Int) (w:World) (h:cY w a gs rq X) (R:fB X Ls aK) (hL:Ls[n]?=some L) (hi:L[k]?=some i) (hq:1<=aw/\aw<=(aK i).aw):
  Wz 149 #[Pz a,Iz (i:Int),Iz aw] w fun e w'=>e= .returned (Iz 0)/\Xn w w' a gs rq Ls aK n k i L aw:=by
 obtain⟨E,eE⟩:=Zn (aK i);have hb:=R.qb n L i hL (bF hi);rw[<-eE] at hb hq;have hs:=R.sl n L k i hL hi;rw[<-eE] at hs;have D:=R.qs n L hL;have ax:=zS fun x hx=>R.qb n L x hL hx;have hlen:=R.len hL;have cv:=h.Vr.1;have cF:=aO hi;have bR:=R.fr;have bU:=yt hL;obtain⟨id,eq,tp⟩:=E;simp only at hb hq hs;obtain⟨qf,bb⟩:=Zn (qe L 0);obtain⟨ql,eql⟩:=Zn (fV L L.length);obtain⟨qt,ay⟩:=Zn (kO aK L);obtain⟨qc,a5⟩:=Zn (L.length:Int);obtain⟨sa,bc⟩:=Zn (fV L k);obtain⟨sb,bf⟩:=Zn (qe L (k+1));rw[<-bc,<-bf] at hs;rw[<-bb,<-eql,<-ay,<-a5] at D;rw[<-ay,<-a5] at ax;have d5:eq<=qt:=by
  have:=AK (aK:=aK) hi;have h2:=zS (aK:=aK) (L:=L.eraseIdx k) fun x hx=>R.qb n L x hL (cE hx);rw[this,<-eE,<-ay] at h2;simp only at h2;omega
 obtain⟨Aq,cq,cs,c0,c1,c2,cH⟩:=h.iK;obtain⟨gq,cQ,hA,q0,q1,q2,q3⟩:=cH n _ D;subst cQ;subst hA;simp only at q0 q1 q2 q3;obtain⟨s0,s1,s2,s3,s4,s5,s6,s7⟩:=h.slot hs;simp only at s0 s1 s2 s3 s4 s5 s6 s7;have hn:=aO D;have d7:(n:Int)<X.H.length:=ae;have d8:IntKind.i64.wrap (eq - aw)=eq - aw:=aN _ ae;have d9:IntKind.i64.wrap (qt - aw)=qt - aw:=aN _ ae;have ea:¬aw<1:=ae;have eb:¬eq<aw:=ae;have fz:=h.gH (i*8+3);obtain⟨s',a6⟩:=Zn (⟨true,i,id,eq - aw,tp,n,sa,sb⟩:cU);obtain⟨q',bh⟩:=Zn (⟨qf,ql,qt - aw,qc⟩:jl);obtain⟨w1,a7⟩:=Zn (w.setCell ⟨gs,i*8+3,none⟩ (Iz (eq - aw)));have H1:cY w1 a gs (some gq) ⟨X.slots.set i s',X.H,X.free⟩:=a7▸a6▸h.kV hs (j:=3) ae _ rfl;have L1:Lv (qA a gs (some gq)) w w1:=a7▸(Lv.refl _ _).setCell (p:=⟨gs,_,none⟩) (.inr (.inl rfl)) _;have bp:(X.slots.set i s')[i]?=some s':=aD (aO hs);obtain⟨w2,a8⟩:=Zn ((w1.setCell ⟨gq,n*4+2,none⟩ (Iz (qt - aw))).drew);have H2:cY w2 a gs (some gq) ⟨X.slots.set i s',X.H.set n q',X.free⟩:=a8▸bh▸(H1.iP (q':=⟨qf,ql,qt - aw,qc⟩) rfl D (j:=2) ae _ rfl).drew;have L2:Lv (qA a gs (some gq)) w w2:=a8▸(L1.setCell (p:=⟨gq,_,none⟩) (.inr (.inr rfl)) _).drew;have ba:(X.H.set n q')[n]?=some q':=aD hn;have ff:=H1.fK rfl (n*4+2);obtain⟨HE,HR,bt,HI,HS,HQ,a0,bV,HB,d6,cS,b0,I,bE,b2,cT,cX,ed⟩:=TN eE R hL hi hs D H2 L2 hb ax bR hlen a6 bh bp ba a5 bU;obtain⟨b7,b8,ef⟩:=fY bc bf (And.intro bb (And.intro eql ay));obtain⟨eg,ei,ej,d0,d1,d2,b9⟩:=H1.iK;obtain⟨dc,cd,dp,r0,r1,r2,r3⟩:=b9 n _ D;obtain rfl:gq=dc:=by injection cd
 subst dp;obtain⟨t0,t1,t2,t3,t4,t5,t6,t7⟩:=H1.slot bp;rw[a6] at t0 t1 t2 t3 t4 t5 t6 t7;simp only at r0 r1 r2 r3 t0 t1 t2 t3 t4 t5 t6 t7 d0 d1 d2;clear eE R hL hi D H2 L2 L1 ax bR hlen a6 bh bp ba a5 bU bc bf bb eql ay hb cv cF
 go_enter Tryz.func149,Tryz.ntmps149
 go_wp2_with fail;refine(qZ a gs (some gq) X i _ _ h HS (.pointer (some ⟨gs,i*8,none⟩)) rfl).mono ?_;rintro e w'⟨rfl,rfl⟩
 go_upto_region 7 with(fail)
 rw[<-a7];clear a7 c0 c1 c2 q0 q1 q2 q3 s0 s1 s2 s3 s4 s5 s6 s7 fz
 go_still_tail 15,(by kernel_rfl)
 go_upto_region 8 with(fail)
 rw[<-a8];clear a8 d0 d1 d2 r0 r1 r2 r3 t0 t1 t2 t3 t4 t5 t6 t7 ff;obtain⟨t0,t1,t2,t3,t4,t5,t6,t7⟩:=a0.h.slot b2;rw[I.h] at t0 t1 t2 t3 t4 t5 t6 t7;simp only at t0 t1 t2 t3 t4 t5 t6 t7
 by_cases bH:eq=aw
 ·subst bH
  rw[Int.sub_self] at t3;have cf:aK i=⟨id,eq,tp⟩:=HE.symm;have bQ:=Ia HR bt HI HS HQ;have hl:Q6 ⟨X.slots.set i s',X.H.set n q',X.free⟩ i n s' q':=by
   refine⟨b2,cT,by rw[I.h],?_,?_,?_⟩
   ·rw[I.h]
    rcases bQ.ah with h1|⟨ia,dS,h1,h2,O⟩
    ·exact .inl h1
    ·exact .inr ⟨ia,dS,h1,by show(X.slots.set i _)[ia]?=_;rw[aZ (fun e=>O e.symm)];exact h2,O⟩
   ·rw[I.h]
    rcases bQ.bk with h1|⟨ib,dT,h1,h2,O⟩
    ·exact .inl h1
    ·exact .inr ⟨ib,dT,h1,by show(X.slots.set i _)[ib]?=_;rw[aZ (fun e=>O e.symm)];exact h2,O⟩
   ·rw[I.h];exact bQ.ab
  have J:=Q0 HR bt HI _ _ HS HQ;have heq:AO ⟨X.slots.set i s',X.H.set n q',X.free⟩ i n s' q'=vO X i n ⟨true,i,id,eq,tp,n,sa,sb⟩ ⟨qf,ql,qt,qc⟩:=by
   rw[I.h,bE.h];unfold AO vO;simp only[Int.sub_self]
   congr 1
   ·apply fA
    intro x
    by_cases hx:i=x
    ·subst hx
     have ck:i<X.slots.length:=aO HS;rw[aD,aD]
     ·split<;>split<;>simpa using ck
     ·split<;>split<;>simpa using ck
    ·have cl: -1<=sa:=by rw[b7.h];exact Hy _ _
     have cm: -1<=sb:=b8.h▸KB _ _;rw[aZ hx,aZ hx,uW cm,uW cm,uW cl,uW cl,aZ hx]
   ·simp
  have hc:0<q'.count/\q'.count<=1000000:=by
   rw[bE.h];have h1:=cX.h;have h2:=b0.h;have O:=a0.h.Vr.1;simp at O;have:k<L.length:=aO HI;simp only;omega
  have hf:0<=X.free/\X.free<=4096:=by
   have h1:=HR.h.fn;have h2:=cS.h;have O:=a0.h.Vr.1;simp at O;omega
  obtain⟨HL,d3,cn,HC,HF,d4⟩:=FW hl J heq hc hf cf;clear hl J heq hc hf cf;go_wp2_with fail;refine(Ou a gs (some gq) _ i n s' q' w2 a0 HL HC HF).mono ?_;rintro e w'⟨rfl,O,l3⟩;rw[cn.h] at O;go_wp2_with fail;go_ret;exact⟨rfl,⟨_,O,fun _=>d3,fun h=>by rw[d4.h] at h;simp only at h;omega⟩,bV.then l3⟩
 ·have i1:¬eq - aw=0:=ae
  have i2:(eq - aw==0)=false:=iW;have a2:=Nj HR bt HI ⟨id,eq - aw,tp⟩ (by rw[<-HE.h]) (by have:=HB.h;simp only;omega) (-aw) (by rw[<-HE.h];simp only;omega);have heq:AL X i n ⟨id,eq - aw,tp⟩ (-aw)=⟨X.slots.set i s',X.H.set n q',X.free⟩:=by
   unfold AL;rw[xo HS.h,xo HQ.h,I.h,bE.h];rfl
  rw[heq] at a2;have ct:=ao a2;clear a2 heq;go_wp2_with fail;go_ret;refine⟨rfl,⟨_,a0,fun h=>by rw[<-HE.h] at h;simp only at h;omega,fun _=>?_⟩,bV⟩;rw[<-HE.h];exact ct
def TX (i:Nat) (e:dn):List Value:=[Iz (i:Int),Iz e.id,Iz e.aw, .bool e.top]
def Ov (i:Nat) (e:dn):Value:= .agg #[Iz (i:Int),Iz e.id,Iz e.aw, .bool e.top]
theorem xp (a gs:Nat) (rq:Option Nat) (X:qd) (Ls:List (List Nat)) (aK:Nat->dn) (n k i:Nat) (L:List Nat) (w:World) (h:cY w a gs rq X) (R:fB X Ls aK) (hL:Ls[n]?=some L) (hi:L[k]?=some i):
  Wz 110 #[Pz a,Iz (i:Int)] w fun e w'=>e= .returned (.tuple #[Ov i (aK i), .bool true])/\Bz w w':=by
 have hs:=R.sl n L k i hL hi;obtain⟨w0,D⟩:=Zn (w.alloc (.cells #[Iz 0,Iz 0,Iz 0, .bool false] 202));obtain⟨g,eg⟩:=Zn w.heap.size;have I:=Zq D eg;have B0:=Zw D;have h0:=h.below B0;have hg:w.heap.size<=g:=ae;obtain⟨s0,s1,s2,s3,s4,s5,s6,s7⟩:=h0.slot hs;simp only at s0 s1 s2 s3 s4 s5 s6 s7;have z0:=I.cell 0;have z1:=I.cell 1;have z2:=I.cell 2;have z3:=I.cell 3;have y0:=I.frozen 0;have y1:=I.frozen 1;have y2:=I.frozen 2;have y3:=I.frozen 3;obtain⟨J,e1⟩:=Zn ((aK i).id);obtain⟨O,e2⟩:=Zn ((aK i).aw);obtain⟨x3,e3⟩:=Zn ((aK i).top);have hv:Ov i (aK i)= .agg #[Iz (i:Int),Iz J,Iz O, .bool x3]:=by rw[e1,e2,e3];rfl
 rw[<-e1,<-e2,<-e3] at hs;rw[<-e1] at s2;rw[<-e2] at s3;rw[<-e3] at s4;rw[hv];have hw:=bO (us:=[Iz (i:Int),Iz J,Iz O, .bool x3]) I rfl;have hb:=bA (us:=[Iz (i:Int),Iz J,Iz O, .bool x3]) (i:=0) hg B0;have HS:=ao hs;clear e1 e2 e3 hv hs R;simp only[fW] at hw hb
 go_enter Tryz.func110,Tryz.ntmps110
 go_upto_region 1 with(fail)
 rw[<-D,<-eg];clear D eg;go_wp2_with fail;refine(qZ a gs rq X i _ _ h0 HS (.pointer (some ⟨gs,i*8,none⟩)) rfl).mono ?_;rintro e w'⟨rfl,rfl⟩;go_wp2_with fail
 (try simp only[Exit.inBlock,Exit.then])
 obtain⟨wz,ax⟩:=Zn ((((w0.setCell ⟨g,0,none⟩ (Iz (i:Int))).setCell ⟨g,0+1,none⟩ (Iz J)).setCell ⟨g,0+1+1,none⟩ (Iz O)).setCell ⟨g,0+1+1+1,none⟩ (.bool x3));rw[<-ax] at hw hb;refine iv ax ?_;have r0:=hw.cell 0;have r1:=hw.cell 1;have r2:=hw.cell 2;have r3:=hw.cell 3;clear z0 z1 z2 z3 y0 y1 y2 y3;refine bodyPost_ret (v:= .tuple #[.agg #[Iz (i:Int),Iz J,Iz O, .bool x3], .bool true]) (by simp[results,Tryz.results110,go_sem,r0,r1,r2,r3];try rfl) rfl ?_;exact⟨rfl,hb⟩
theorem Ek (a gs:Nat) (rq:Option Nat) (X:qd) (i:Nat) (s:cU) (w:World) (h:cY w a gs rq X) (hs:X.slots[i]?=some s) (hu:s.used=false):
  Wz 110 #[Pz a,Iz (i:Int)] w fun e w'=>e= .returned (.tuple #[.agg #[Iz 0,Iz 0,Iz 0, .bool false], .bool false])/\Bz w w':=by
 obtain⟨w0,D⟩:=Zn (w.alloc (.cells #[Iz 0,Iz 0,Iz 0, .bool false] 202));obtain⟨g,O⟩:=Zn w.heap.size;have I:=Zq D O;have B0:=Zw D;have h0:=h.below B0;have hg:w.heap.size<=g:=ae;have z0:=I.cell 0;have z1:=I.cell 1;have z2:=I.cell 2;have z3:=I.cell 3;have y0:=I.frozen 0;have y1:=I.frozen 1;have y2:=I.frozen 2;have y3:=I.frozen 3;have hw:=bO (us:=[Iz 0,Iz 0,Iz 0, .bool false]) I rfl;have hb:=bA (us:=[Iz 0,Iz 0,Iz 0, .bool false]) (i:=0) hg B0;obtain⟨HS,HU⟩:=dF hs hu;clear hs hu;simp only[fW] at hw hb
 go_enter Tryz.func110,Tryz.ntmps110
 go_upto_region 1 with(fail)
 rw[<-D,<-O];clear D O;go_wp2_with fail;refine(qZ a gs rq X i _ _ h0 HS (.pointer none) (by rw[HU.h];rfl)).mono ?_;rintro e w'⟨rfl,rfl⟩;go_wp2_with fail
 (try simp only[Exit.inBlock,Exit.then])
 obtain⟨wz,J⟩:=Zn ((((w0.setCell ⟨g,0,none⟩ (Iz 0)).setCell ⟨g,0+1,none⟩ (Iz 0)).setCell ⟨g,0+1+1,none⟩ (Iz 0)).setCell ⟨g,0+1+1+1,none⟩ (.bool false));rw[<-J] at hw hb;refine iv J ?_;have r0:=hw.cell 0;have r1:=hw.cell 1;have r2:=hw.cell 2;have r3:=hw.cell 3;clear z0 z1 z2 z3 y0 y1 y2 y3;refine bodyPost_ret (v:= .tuple #[.agg #[Iz 0,Iz 0,Iz 0, .bool false], .bool false]) (by simp[results,Tryz.results110,go_sem,r0,r1,r2,r3];try rfl) rfl ?_;exact⟨rfl,hb⟩
theorem Tryz.TY:(Tryz.prog.info? 202).map (fun i=>(i.zero,i.size,i.bytes))=some (some (.agg #[Iz 0,Iz 0,Iz 0, .bool false]),4,32):=by kernel_rfl
theorem Xo:kA Tryz.prog 294 202 (.agg #[Iz 0,Iz 0,Iz 0, .bool false]) 4 32:=
 ⟨Tryz.underlying294,let ⟨i,h,D,I,J⟩:=info_parts Tryz.TY;⟨i,h,D,I,J⟩,rfl,ae,ae⟩
def AP (aK:Nat→dn) (L:List Nat):List Value:=L.flatMap fun i=>TX i (aK i)
theorem Ow (a gs:Nat) (rq:Option Nat) (X:qd) (Ls:List (List Nat)) (aK:Nat->dn) (n:Nat) (L:List Nat) (w:World) (h:cY w a gs rq X) (R:fB X Ls aK) (hL:Ls[n]?=some L):
  Wz 180 #[Pz a,Iz (n:Int)] w fun e w'=> ∃A c,e= .returned (.slice A L.length c)/\w'.ownsRow w.heap.size 202 4 (.slice A L.length c) L.length (AP aK L)/\Bz w w':=by
 have I:=R.qs n L hL;have hlen:=R.len hL;have ay:=h.Vr.1;have hn:n<X.H.length:=aO I;obtain⟨Aq,cq,cs,c0,c1,c2,a0⟩:=h.iK;obtain⟨gq,bc,hA,q0,q1,q2,q3⟩:=a0 n _ I;subst bc;subst hA;simp only at q0 q1 q2 q3;clear a0 I;have bh:(n:Int)<X.H.length:=ae;obtain⟨f,hf⟩:=Zn (qe L:Nat->Int);rw[<-hf] at q0;obtain⟨H,HR,HL,HF,a2⟩:=rU h R hL hf (And.intro hlen ay);clear hlen ay R hL hf
 go_enter Tryz.func180,Tryz.ntmps180
 go_wp2_with fail;refine(zT a gs (some gq) X n _ H true (by symm;apply decide_eq_true;omega)).mono ?_;rintro e w'⟨rfl,rfl⟩;go_wp2_with fail;clear c0 c1 c2 q0 q1 q2 q3
 go_loopw [5,6] (fun v p wr=> ∃(j:Nat) (A:Option Addr) (c:Nat),j<=L.length/\v= .slice A j c/\p= Iz (f j)/\Hid (wr.ownsRow w.heap.size 202 4 (.slice A j c) j (AP aK (L.take j)))/\Bz w wr) (fun v _ _=>L.length - (match v with| .slice _ j _=>j|_=>0))
 case atStart=>exact⟨0,none,0,aB _,rfl,rfl,by exact aM _ _ _ _,aa _ _⟩
 case round=>
  obtain⟨j,A,c,hj,rfl,rfl,HO,B⟩:=hrel
  by_cases a5:j<L.length
  ·obtain⟨i,hi⟩:∃i,L[j]?=some i:=⟨L[j],aj a5⟩
   have J:f j=(i:Int):=HF.h▸jL hi;have hs:=HR.h.sl n L j i HL hi;have bp:i<X.slots.length:=aO hs;have H1:=H.h.below B;obtain⟨s0,s1,s2,s3,s4,s5,s6,s7⟩:=H1.slot hs;obtain⟨bt,bE,bH,c0,c1,c2, -⟩:=H1.iK;obtain⟨nx,O⟩:=Zn (f (j+1));have a6:wr.cell? ⟨gs,i*8+7,none⟩=some (Iz nx):=by rw[s7,O,HF.h]
   obtain⟨x1,e1⟩:=Zn ((aK i).id);obtain⟨x2,e2⟩:=Zn ((aK i).aw);obtain⟨x3,e3⟩:=Zn ((aK i).top);simp only at s0 s1 s2 s3 s4 s5 s6;rw[<-e1] at s2;rw[<-e2] at s3;rw[<-e3] at s4;have i1:((i:Int)== -1)=false:=bT;have i2:((i:Int) != -1)=true:=bT;have i3:(i:Int)<X.slots.length:=ae;have own:=HO.h;have hE:AP aK (L.take (j+1))=AP aK (L.take j)++#[Value.int .i64 (i:Int),Iz x1,Iz x2, .bool x3].toList:=by
    rw[dN hi,e1,e2,e3];simp[AP,TX]
   obtain⟨HE,HI,bQ,HS,a7⟩:=rU hE hi J hs O;have bf:=a2.h;rw[J];clear hE hi J hs O s7 s6 s5 e1 e2 e3;obtain⟨bR,bU⟩:=bf
   go_wp2_with (at_builtin
                refine dO Xo own #[Iz (i:Int),Iz x1,Iz x2, .bool x3] rfl _ _ rfl rfl rfl rfl (by intro u hu;simp at hu;rcases hu with rfl|rfl|rfl|rfl<;>rfl) ae B.size ?_;intro A2 a8 w2 D g2 b2 l2;have B2:=b2 _ _ (af _) B;have ax:Hid (w2.ownsRow w.heap.size 202 4 (.slice A2 (j+1) a8) (j+1) (AP aK (L.take (j+1)))):=ao (HE.h▸D);have H2:=H.h.below B2;clear own D g2 b2 l2 HO s0 s1 s2 s3 s4 c0 c1 c2 a6 H1 B;obtain⟨bV,b0,b7,c0,c1,c2,_⟩:=H2.iK;obtain⟨_,_,_,_,_,_,_,s7⟩:=H2.slot HS;have a6:w2.cell? ⟨gs,i*8+7,none⟩=some (Iz nx):=by rw[s7,a7.h,HF.h]
                clear s7 H2)
   (try go_wp2_with fail)
   go_roundw
   case rel=>exact⟨j+1,A2,a8,ae,rfl,by rw[a7.h],ax,B2⟩
   case measure=>simp;omega
  ·have ba:j=L.length:=ae
   have bb:f j= -1:=HF.h▸ba▸mW bT;rw[bb];subst ba;have ax:Hid (wr.ownsRow w.heap.size 202 4 (.slice A L.length c) L.length (AP aK L)):=by have:=HO.h;rw[dE] at this;exact this
   clear HO bb a5 hj;go_wp2_with fail;go_ret;exact⟨A,c,rfl,ax,B⟩
theorem Tryz.TZ:(Tryz.prog.info? 273).map (fun i=>(i.zero,i.size,i.bytes))=some (some (.agg #[Iz 0,Iz 0,Iz 0,Iz 0]),4,32):=by kernel_rfl
theorem Vs:kA Tryz.prog 242 273 (.agg #[Iz 0,Iz 0,Iz 0,Iz 0]) 4 32:=
 ⟨Tryz.underlying242,let ⟨i,h,D,I,J⟩:=info_parts Tryz.TZ;⟨i,h,D,I,J⟩,rfl,ae,ae⟩
end Go.Proofs.YtbaaheidifacaaaGreat
