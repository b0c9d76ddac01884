import Derived.Test.YtbaaheidifacaaaGreatQTopPC1
set_option linter.defProp false
set_option linter.unusedVariables false
set_option linter.unusedSimpArgs false
set_option maxRecDepth 100000
set_option maxHeartbeats 12800000
namespace Go.Proofs.YtbaaheidifacaaaGreat
variable {P P':PD} {S:Sm} {b c x y:Int} {f g:dn→Option dn} {im:Option Qt} {l:List dn} {tp':kJ}
open Go.RowKit
structure Tf where
 zx:Bool
 a:Int
 b:Int
 d:Int
structure Tf.Ok (T:Tf):Prop where
 a1:1≤T.a
 b1:1≤T.b
def Tf.pr (T:Tf) (p:Int):Int:=if T.zx=true then -(T.a*p) else T.a*p
def Tf.k (T:Tf) (k:Nat):Nat:=if T.zx=true then 1 - k else k
def Tf.aK (T:Tf) (e:dn):dn:=⟨e.id+T.d,T.b*e.aw,e.top⟩
def Tf.lvl (T:Tf) (r:iQ):iQ:=(T.pr r.1,r.2.map T.aK)
def Tf.bm (T:Tf) (M:BM):BM:=if T.zx=true then ⟨M.s1.map T.lvl,M.s0.map T.lvl⟩ else ⟨M.s0.map T.lvl,M.s1.map T.lvl⟩
def Tf.sm (T:Tf) (S:Sm):Sm:=S.map T.bm
section
variable {T:Tf}
theorem p8 {a:Int} (ha:1<=a):a*x<a*y↔x<y:=⟨fun h=>Int.lt_of_mul_lt_mul_left h ae,fun h=>Int.mul_lt_mul_of_pos_left h ae⟩
theorem fU {a:Int} (ha:1<=a):a*x<=a*y↔x<=y:=cA (p8 (x:=y) (y:=x) ha)
theorem sP {a:Int} (ha:1<=a):a*x=a*y↔x=y:=by
 have D:=fU (x:=x) (y:=y) ha;have I:=fU (x:=y) (y:=x) ha;omega
theorem Tf.Ai (k:Nat):T.k (1 - k)=1 - T.k k:=by unfold Tf.k;split<;>omega
theorem Tf.VX (h:T.Ok):T.pr x=T.pr y↔x=y:=by
 have:=sP (x:=x) (y:=y) h.a1;unfold Tf.pr;split<;>omega
theorem Tf.qK (h:T.Ok):T.pr x<T.pr y↔if T.zx=true then y<x else x<y:=by
 have D:=p8 (x:=x) (y:=y) h.a1;have I:=p8 (x:=y) (y:=x) h.a1;unfold Tf.pr;split<;>omega
theorem Tf.better (h:T.Ok) (k:Nat) (O:k<2) (x y:Int):bz (T.k k) (T.pr x) (T.pr y)=bz k x y:=by
 have D:=T.qK h (x:=x) (y:=y);have I:=T.qK h (x:=y) (y:=x);unfold bz Tf.k
 cases hm:T.zx
 ·rw[hm] at D I
  simp only[dm,if_false] at D I⊢;simp only[D,I]
 ·rw[hm] at D I
  simp only[if_true] at D I⊢;have J:k=0\/k=1:=ae;rcases J with rfl|rfl<;>simp[D,I]
theorem Tf.US (h:T.Ok) (k:Nat) (O:k<2) (x y:Int):lp (T.k k) (T.pr x) (T.pr y)=lp k x y:=by
 have D:=T.qK h (x:=x) (y:=y);have I:=T.qK h (x:=y) (y:=x);unfold lp Tf.k
 cases hm:T.zx
 ·rw[hm] at D I
  simp only[dm,if_false] at D I⊢;have e1:T.pr y<=T.pr x↔y<=x:=ae;have e2:T.pr x<=T.pr y↔x<=y:=ae;simp only[e1,e2]
 ·rw[hm] at D I
  simp only[if_true] at D I⊢;have e1:T.pr y<=T.pr x↔x<=y:=ae;have e2:T.pr x<=T.pr y↔y<=x:=ae;have J:k=0\/k=1:=ae;rcases J with rfl|rfl<;>simp[e1,e2]
theorem Tf.side (M:BM) (k:Nat):(T.bm M).side (T.k k)=(M.side k).map T.lvl:=by
 unfold BM.side Tf.bm Tf.k
 cases hm:T.zx
 ·simp only[dm,if_false]
  split<;>rfl
 ·simp only[if_true]
  by_cases D:k=0
  ·subst D;simp
  ·have:1 - k=0:=ae
   simp[this,D]
theorem Tf.Zp (l:List iQ):yx (l.map T.lvl)=(yx l).map T.lvl:=by
 unfold yx;rw[di,di];refine cJ fun r _=>?_;simp only[Function.comp,Tf.lvl,di,Prod.mk.injEq,true_and];rfl
theorem Tf.put (h:T.Ok) (k:Nat) (J:k<2) (p:Int) (e:dn):∀l:List iQ,mo (T.k k) (l.map T.lvl) (T.pr p) (T.aK e)=(mo k l p e).map T.lvl
 |[]=>by simp[mo,Tf.lvl]
 |r::l=>by
  have ih:=Tf.put h k J p e l;simp only[aW,mo];have hb:bz (T.k k) (T.lvl r).1 (T.pr p)=bz k r.1 p:=T.better h k J r.1 p;rw[hb]
  by_cases D:bz k r.1 p=true
  ·rw[if_pos D,if_pos D,ih];rfl
  ·rw[if_neg D,if_neg D]
   have O:(T.lvl r).1=T.pr p↔r.1=p:=T.VX h
   by_cases I:r.1=p
   ·rw[if_pos I,if_pos (O.2 I)]
    simp[Tf.lvl,cx]
   ·rw[if_neg I,if_neg (fun e=>I (O.1 e))]
    simp[Tf.lvl]
theorem Tf.ld (h:T.Ok) (k:Nat) (D:k<2) (l:List iQ) (p:Int):Kd (T.k k) (l.map T.lvl) (T.pr p)=Kd k l p:=by
 cases l with
 |nil=>rfl
 |cons r l=>exact T.better h k D p r.1
theorem Tf.stand (h:T.Ok) (k:Nat) (I:k<2) (l:List iQ) (id p q:Int):jo (T.k k) (l.map T.lvl) (id+T.d) (T.pr p) (T.b*q)=(jo k l id p q).map T.lvl:=by
 unfold jo;rw[T.ld h k I];have he:(⟨id+T.d,T.b*q,Kd k l p⟩:dn)=T.aK ⟨id,q,Kd k l p⟩:=rfl;rw[he]
 by_cases D:Kd k l p=true
 ·rw[if_pos D,if_pos D,T.Zp,T.put h k I]
 ·rw[if_neg D,if_neg D,T.put h k I]
theorem Tf.add (h:T.Ok) (M:BM) (k:Nat) (O:k<2) (id p q:Int):(T.bm M).add (T.k k) (id+T.d) (T.pr p) (T.b*q)=T.bm (M.add k id p q):=by
 have D:=fun l=>T.stand h 0 ae l id p q;have I:=fun l=>T.stand h 1 ae l id p q;unfold BM.add Tf.bm;unfold Tf.k at D I⊢;have J:k=0\/k=1:=ae
 cases hm:T.zx
 ·simp only[hm,dm,if_false] at D I⊢
  rcases J with rfl|rfl<;>simp[D,I]
 ·simp only[hm,if_true] at D I⊢
  rcases J with rfl|rfl
  ·have:=D M.s0;simp at this⊢;exact this
  ·have:=I M.s1;simp at this⊢;exact this
theorem Tf.XZ (h:T.Ok) (id q:Int) (e:dn):fS (id+T.d) (T.b*q) (T.aK e)=(fS id q e).map T.aK:=by
 unfold fS;have e1:(T.aK e).id=id+T.d↔e.id=id:=by show e.id+T.d=id+T.d↔_;omega
 have e2:(T.aK e).aw<=T.b*q↔e.aw<=q:=fU h.b1
 by_cases D:e.id=id
 ·rw[if_pos D,if_pos (e1.2 D)]
  by_cases I:e.aw<=q
  ·rw[if_pos I,if_pos (e2.2 I)];rfl
  ·rw[if_neg I,if_neg (fun e=>I (e2.1 e))]
   simp[Tf.aK,ku]
 ·rw[if_neg D,if_neg (fun e=>D (e1.1 e))];rfl
theorem filterMap_map {t:dn->dn} (h:∀e,g (t e)=(f e).map t):(l.map t).filterMap g=(l.filterMap f).map t:=by
 induction l with
 |nil=>rfl
 |cons e l D=>
  rw[aW,dr,dr,h e]
  cases f e with
  |none=>exact D
  |some x=>simp[D]
theorem Tf.X0 (h:T.Ok) (id q:Int) (l:List iQ):kZ (id+T.d) (T.b*q) (l.map T.lvl)=(kZ id q l).map T.lvl:=by
 unfold kZ;rw[di];have e:(l.map ((yy (id+T.d) (T.b*q))∘T.lvl))=(l.map (yy id q)).map T.lvl:=by
  rw[di];refine cJ fun r _=>?_;show(T.pr r.1,_)=(T.pr r.1,_);rw[Prod.mk.injEq];exact⟨rfl,filterMap_map (T.XZ h id q)⟩
 rw[e]
 generalize l.map (yy id q)=m
 induction m with
 |nil=>rfl
 |cons r m D=>
  rw[aW,gN,gN,D];have:(T.lvl r).2.isEmpty=r.2.isEmpty:=by show(r.2.map T.aK).isEmpty=_;cases r.2<;>rfl
  rw[this]
  split<;>simp
theorem Tf.cut (h:T.Ok) (M:BM) (id q:Int):(T.bm M).cut (id+T.d) (T.b*q)=T.bm (M.cut id q):=by
 unfold BM.cut Tf.bm
 cases hm:T.zx<;>simp[T.X0 h]
theorem Tf.Zv (h:T.Ok) (L:List dn):mq (L.map T.aK)=T.b*mq L:=by
 unfold mq
 induction L with
 |nil=>simp
 |cons e L D=>
  simp only[aW,cN,D,zN];rfl
def Tf.tp (T:Tf) (x:Int×Int):Int×Int:=(T.pr x.1,T.b*x.2)
theorem Tf.top (h:T.Ok) (M:BM) (k:Nat):yG (T.bm M) (T.k k)=(yG M k).map T.tp:=by
 unfold yG;rw[T.side]
 cases M.side k with
 |nil=>rfl
 |cons r l=>simp[Tf.tp,Tf.lvl,T.Zv h]
theorem Tf.WO (h:T.Ok) (S:Sm) (x k:Nat):lU (T.sm S) x (T.k k)=(lU S x k).map T.tp:=by
 unfold lU Tf.sm;rw[bo]
 cases S[x]? with
 |none=>rfl
 |some M=>exact T.top h M k
def Tf.qt (T:Tf) (q:Qt):Qt:=⟨T.pr q.ag,T.b*q.aw,q.i0,T.k q.k0,q.i1,T.k q.k1⟩
theorem GS (I:1<=b):min (b*x) (b*y)=b*min x y:=by
 have:=fU (x:=x) (y:=y) I
 by_cases D:x<=y
 ·rw[Int.min_eq_left D,Int.min_eq_left (this.2 D)]
 ·rw[Int.min_eq_right ae,Int.min_eq_right ae]
theorem Tf.YS (h:T.Ok) {tp:kJ} (I:∀x k,tp' x (T.k k)=(tp x k).map T.tp) (a D b kb:Nat) (less:Bool):xe tp' a (T.k D) b (T.k kb) less=(xe tp a D b kb less).map T.qt:=by
 unfold xe;rw[I,I]
 cases tp a D with
 |none=>cases tp b kb<;>rfl
 |some x=>
  cases tp b kb with
  |none=>rfl
  |some y=>
   simp only[fc,gf];unfold Tf.qt Tf.tp;simp only[Qt.mk.injEq,and_true,true_and];refine⟨?_,GS h.b1⟩
   cases less
   ·simp only[dm,if_false]
    unfold Tf.pr;split<;>rw[zN]<;>omega
   ·simp only[if_true]
    unfold Tf.pr;split<;>rw[ku]<;>omega
theorem wk {α β γ:Type} {l:List α} {f:α->Option β} {g:α->Option γ} {t:β->γ} (h:∀e∈l,g e=(f e).map t):l.filterMap g=(l.filterMap f).map t:=by
 induction l with
 |nil=>rfl
 |cons e l D=>
  rw[dr,dr,h e bT,D fun e he=>h e (by simp[he])]
  cases f e with
  |none=>rfl
  |some x=>simp
theorem Tf.all (h:T.Ok) {tp:kJ} (D:∀x k,tp' x (T.k k)=(tp x k).map T.tp) (n x k:Nat):mG n tp' x (T.k k)=(mG n tp x k).map T.qt:=by
 unfold mG
 by_cases hx:x<n
 ·rw[if_pos hx,if_pos hx,cx,<-T.Ai]
  congr 1
  ·exact wk fun j _=>T.YS h D _ _ _ _ _
  ·exact wk fun j _=>T.YS h D _ _ _ _ _
 ·rw[if_neg hx,if_neg hx,<-T.Ai,T.YS h D]
  cases xe tp (cy n x).2 (1 - k) (cy n x).1 k true<;>rfl
theorem Tf.YT (h:T.Ok) (k:Nat) (I:k<2) (l:List Qt):nF (T.k k) (l.map T.qt)=(nF k l).map T.qt:=by
 cases l with
 |nil=>rfl
 |cons q l=>
  show some _=some _
  congr 1
  have:∀(l:List Qt) (b:Qt),(l.map T.qt).foldl (fun b q=>if bz (T.k k) q.ag b.ag=true then q else b) (T.qt b)=T.qt (l.foldl (fun b q=>if bz k q.ag b.ag=true then q else b) b):=by
   intro l
   induction l with
   |nil=>intro b;rfl
   |cons q l D=>
    intro b;rw[aW,MW,MW];have J:bz (T.k k) (T.qt q).ag (T.qt b).ag=bz k q.ag b.ag:=T.better h k I _ _;rw[J]
    split
    ·exact D q
    ·exact D b
  exact this (q::l) q
structure Tf.Pr (T:Tf) (P P':PD):Prop where
 n:P'.n=P.n
 tick:P'.tick=T.a*P.tick
 lo:∀x,P'.lo x=if T.zx=true then T.pr (P.hi x) else T.pr (P.lo x)
 hi:∀x,P'.hi x=if T.zx=true then T.pr (P.lo x) else T.pr (P.hi x)
 low:P'.low=P'.lo 0
 high:P'.high=P'.hi 0
 X2:P.low=P.lo 0
 VY:P.high=P.hi 0
 lh:P.low≤P.high
 settle:∀j,P'.settle.getD j 0=T.pr (P.settle.getD j 0)
 rule:P'.rule=P.rule
 top:P'.top=P.top
 least:P'.least=P.least
 part:P'.part=P.part
 first:T.b=1∨P.rule=1
 wide:∀x,P.n≤x→x<P.count→P.lo x= -P.wide∧P.hi x=P.wide
 t1:1≤P.tick
theorem Tf.count (D:T.Pr P P'):P'.count=P.count:=by unfold PD.count;rw[D.n]
theorem Tf.dvd (h:T.Ok) (D:T.Pr P P') (p:Int):T.pr p % P'.tick=0↔p % P.tick=0:=by
 rw[D.tick];have I:T.a*p % (T.a*P.tick)=T.a*(p % P.tick):=Int.mul_emod_mul_of_pos _ _ (cA h.a1);have J:T.a*(p % P.tick)=0↔p % P.tick=0:=by
  have:=sP (x:=p % P.tick) (y:=0) h.a1;rw[iN] at this;exact this
 have O:T.pr p % (T.a*P.tick)=0↔T.a*p % (T.a*P.tick)=0:=by
  unfold Tf.pr
  split
  ·rw[<-TH,<-TH,Kk]
  ·exact Iff.rfl
 rw[O,I,J]
theorem Tf.fy (h:T.Ok) (D:T.Pr P P') (x:Nat) (p:Int):P'.fy x (T.pr p)=P.fy x p:=by
 unfold PD.fy;have h1:(T.pr p % P'.tick≠0)=(p % P.tick≠0):=by
  have:=T.dvd h D p;exact propext (not_congr this)
 have h2:=D.lo x;have h3:=D.hi x;have a1:=T.qK h (x:=p) (y:=P.lo x);have I:=T.qK h (x:=P.lo x) (y:=p);have J:=T.qK h (x:=p) (y:=P.hi x);have O:=T.qK h (x:=P.hi x) (y:=p);have h5:(T.pr p<P'.lo x\/P'.hi x<T.pr p)=(p<P.lo x\/P.hi x<p):=by
  rw[h2,h3];refine propext ?_
  cases hm:T.zx
  ·rw[hm] at a1 O
   simp only[dm,if_false] at a1 O⊢;rw[a1,O]
  ·rw[hm] at I J
   simp only[if_true] at I J⊢;rw[I,J];exact Or.comm
 simp only[h1,h5]
theorem Tf.oY (h:T.Ok) (D:T.Pr P P') (x p:Int):P'.oY x (T.pr p)=P.oY x p:=by
 unfold PD.oY;rw[Tf.count D,T.fy h D]
theorem Tf.WQ (h:T.Ok) (D:T.Pr P P') {tp:kJ} (I:∀x k,tp' x (T.k k)=(tp x k).map T.tp) (x k:Nat):iq P' tp' x (T.k k)=(iq P tp x k).map T.qt:=by
 unfold iq;rw[D.n,T.all h I]
 generalize mG P.n tp x k=l
 induction l with
 |nil=>rfl
 |cons q l J=>
  rw[aW,gN,gN,J];have:(P'.fy x (T.qt q).ag==0)=(P.fy x q.ag==0):=by rw[show(T.qt q).ag=T.pr q.ag from rfl,T.fy h D]
  rw[this]
  split<;>simp
def Tf.nx (T:Tf) (o:Int×Int×Option Qt):Int×Int×Option Qt:=(T.pr o.1,T.b*o.2.1,o.2.2.map T.qt)
theorem Tf.next (h:T.Ok) (I:T.Pr P P') (S:Sm) (x k:Nat) (D:k<2):jZ P' (T.sm S) x (T.k k)=(jZ P S x k).map T.nx:=by
 unfold jZ;rw[T.WO h,T.WQ h I (tp:=lU S) (fun x k=>T.WO h S x k),T.YT h k D]
 cases lU S x k with
 |none=>
  cases nF k (iq P (lU S) x k) with
  |none=>rfl
  |some q=>rfl
 |some r=>
  cases nF k (iq P (lU S) x k) with
  |none=>rfl
  |some q=>
   simp only[fc];have J:bz (T.k k) (T.qt q).ag (T.tp r).1=bz k q.ag r.1:=T.better h k D _ _;rw[J]
   split<;>rfl
end
section
variable {T:Tf}
theorem zy (D:1<=b):∀(l:List Int) (q:Int),cD (l.map (b*·)) (b*q)=(cD l q).map (b*·)
 |[],q=>rfl
 |n::l,q=>by
  simp only[aW,cD];rw[GS D,<-ku,zy D l]
theorem FL (b:Int):∀l:List Int,(l.map (b*·)).sum=b*l.sum
 |[]=>bT
 |n::l=>by simp only[aW,cN,FL b l,zN]
theorem GU (D:1<=b) (hc:b*c<=1000000) {l:List Int} (O:∀n∈l,1<=n/\n<=c) (q:Int):eh (l.map (b*·)) (b*q)=eh l q:=by
 have h1:(l.map (b*·)).all TQ=true:=fN.2 fun x hx=>by
  obtain⟨n,hn,rfl⟩:=aV.1 hx;obtain⟨I,J⟩:=O n hn;have h4:=(fU (a:=b) (x:=1) (y:=n) D).2 I;have h5:=(fU (a:=b) (x:=n) (y:=c) D).2 J;exact(uR _).2 ⟨ae,ae⟩
 have I:l.all TQ=true:=fN.2 fun n hn=>by
  obtain⟨I,J⟩:=O n hn;have h5:=(fU (a:=b) (x:=n) (y:=c) D).2 J;have h6:1*n<=b*n:=Int.mul_le_mul_of_nonneg_right D ae;exact(uR _).2 ⟨I,ae⟩
 have J:(0<=b*q)↔0<=q:=by
  have:=fU (a:=b) (x:=0) (y:=q) D;rw[iN] at this;exact this
 have h4:(b*q<=b*l.sum)↔q<=l.sum:=fU D;unfold eh;rw[h1,I,FL,br];simp only[J,h4]
theorem JS (f:dn->Ord) (g:dn->Ord) (h:∀e,(f e).top=(g e).top):∀l:List dn,td (l.map f)=td (l.map g)
 |[]=>rfl
 |e::l=>by simp only[aW,td,h e,JS f g h l]
theorem Tf.shares (h:T.Ok) (D:T.Pr P P') (hc:T.b*c<=1000000) (k:Nat) (r:iQ) (hr:∀e∈r.2,1<=e.aw/\e.aw<=c) (q:Int):mA P' (T.k k) (T.lvl r) (T.b*q)=(mA P k r q).map (T.b*·):=by
 unfold mA kg;rw[D.rule,D.top,D.least,D.part];have e1:lT ((T.lvl r).2.map (kB ((T.k k:Nat)+1) (T.lvl r).1))=(lT (r.2.map (kB ((k:Int)+1) r.1))).map (T.b*·):=by
  unfold lT Tf.lvl;simp only[di];rfl
 have e2:td ((T.lvl r).2.map (kB ((T.k k:Nat)+1) (T.lvl r).1))=td (r.2.map (kB ((k:Int)+1) r.1)):=by
  unfold Tf.lvl;simp only[di];exact JS (kB ((T.k k:Nat)+1) (T.pr r.1)∘T.aK) (kB ((k:Int)+1) r.1) (fun _=>rfl) r.2
 rw[e1,e2];rcases D.first with I|hf
 ·have J:∀l:List Int,l.map (T.b*·)=l:=fun l=>by rw[I];simp
  rw[J,I,qW];simp
 ·rw[if_pos hf,if_pos hf]
  unfold yo;rw[GU h.b1 hc (fun n hn=>by
   unfold lT at hn;rw[di] at hn;obtain⟨e,he,rfl⟩:=aV.1 hn;exact hr e he) q]
  split
  ·exact zy h.b1 _ _
  ·rfl
def Tf.fill (T:Tf) (f:fG):fG:=⟨f.id+T.d,f.inst,T.k f.k,T.pr f.ag,T.b*f.aw,T.b*f.left⟩
theorem mul_pos_iff (D:1<=b):0<b*c↔0<c:=by
 have:=p8 (a:=b) (x:=0) (y:=c) D;rw[iN] at this;exact this
theorem Tf.U (h:T.Ok) (x k:Nat) (p:Int):∀(es:List dn) (cs:List Int),dC x (T.k k) (T.pr p) (es.map T.aK) (cs.map (T.b*·))=(dC x k p es cs).map T.fill
 |e::es,c::cs=>by
  have D:=Tf.U h x k p es cs;simp only[aW,dC];rw[D]
  by_cases hc:0<c
  ·rw[if_pos hc,if_pos ((mul_pos_iff h.b1).2 hc)]
   simp[Tf.fill,Tf.aK,ku]
  ·rw[if_neg hc,if_neg (fun e=>hc ((mul_pos_iff h.b1).1 e))]
 |[],cs=>by cases cs<;>simp[dC]
 |e::es,[]=>by simp[dC]
theorem Tf.CL (h:T.Ok):∀(es:List dn) (cs:List Int) (M:BM),ja (T.bm M) (es.map T.aK) (cs.map (T.b*·))=T.bm (ja M es cs)
 |e::es,c::cs,M=>by
  simp only[aW,ja];rw[<-Tf.CL h es cs]
  congr 1
  by_cases hc:0<c
  ·rw[if_pos hc,if_pos ((mul_pos_iff h.b1).2 hc)]
   exact T.cut h M e.id c
  ·rw[if_neg hc,if_neg (fun e=>hc ((mul_pos_iff h.b1).1 e))]
 |[],cs,M=>by cases cs<;>simp[ja]
 |e::es,[],M=>by simp[ja]
theorem Tf.at_ (S:Sm) (x:Nat):(T.sm S)[x]?=(S[x]?).map T.bm:=by unfold Tf.sm;exact bo ..
theorem Tf.set (S:Sm) (x:Nat) (M:BM):(T.sm S).set x (T.bm M)=T.sm (S.set x M):=by unfold Tf.sm;exact(Vk ..).symm
theorem Tf.nr (h:T.Ok) (D:T.Pr P P') (hc:T.b*c<=1000000) (hS:SB c S) (x k:Nat) (q:Int):
  bM P' (T.sm S) x (T.k k) (T.b*q)=(T.sm (bM P S x k q).1,(bM P S x k q).2.map T.fill):=by
 unfold bM;rw[T.at_]
 cases I:S[x]? with
 |none=>rfl
 |some M=>
  simp only[fc];rw[T.side]
  cases hs:M.side k with
  |nil=>rfl
  |cons r l=>
   have hr:r∈M.side k:=by rw[hs];simp
   have J:=T.shares h D hc k r (hS.at_ I hr).2 q;simp only[aW];rw[J,show(T.lvl r).2=r.2.map T.aK from rfl,show(T.lvl r).1=T.pr r.1 from rfl,T.CL h,T.U h,T.set]
theorem Tf.nT (h:T.Ok) (D:T.Pr P P') (hc:T.b*c<=1000000) (hS:SB c S) (x k:Nat) (im:Option Qt) (t:Int):
  dA P' (T.sm S) x (T.k k) (im.map T.qt) (T.b*t)=(T.sm (dA P S x k im t).1,(dA P S x k im t).2.map T.fill):=by
 unfold dA
 cases im with
 |none=>exact T.nr h D hc hS x k t
 |some q=>
  simp only[fc];rw[show(T.qt q).i0=q.i0 from rfl,show(T.qt q).k0=T.k q.k0 from rfl,show(T.qt q).i1=q.i1 from rfl,show(T.qt q).k1=T.k q.k1 from rfl];rw[T.nr h D hc hS,T.nr h D hc (hS.nr _ _ _),cx]
def Tf.step (T:Tf) (st:jz):jz:=⟨T.pr st.ag,T.b*st.aw,st.imp,st.U.map T.fill⟩
theorem Tf.run (h:T.Ok) (hP:T.Pr P P') (hc:T.b*c<=1000000) (x k:Nat) (hk:k<2) (ag:Int):∀(f f':Nat) (S:Sm) (aw:Int),SB c S->aw.toNat<=f->(T.b*aw).toNat<=f'->
  dV P' f' (T.sm S) x (T.k k) (T.pr ag) (T.b*aw)=(T.sm (dV P f S x k ag aw).1,(dV P f S x k ag aw).2.1.map T.step,T.b*(dV P f S x k ag aw).2.2):=by
 intro f
 induction f with
 |zero=>
  intro f' S aw hS h1 h2;have I:aw<=0:=ae;have D:T.b*aw<=0:=by
   have:=fU (a:=T.b) (x:=aw) (y:=0) h.b1;rw[iN] at this;exact this.2 I
  rw[sQ I,sQ D];rfl
 |succ f ih=>
  intro f' S aw hS h1 h2
  by_cases I:aw<=0
  ·have D:T.b*aw<=0:=by
    have:=fU (a:=T.b) (x:=aw) (y:=0) h.b1;rw[iN] at this;exact this.2 I
   rw[sQ I,sQ D];rfl
  ·have D:¬T.b*aw<=0:=fun e=>by
    have:=fU (a:=T.b) (x:=aw) (y:=0) h.b1;rw[iN] at this;exact I (this.1 e)
   obtain⟨J,rfl⟩:∃g,f'=g+1:=⟨f' - 1,ae⟩;unfold dV;rw[if_neg I,if_neg D,<-T.Ai,T.next h hP S x (1 - k) ae]
   cases hn:jZ P S x (1 - k) with
   |none=>rfl
   |some o=>
    obtain⟨p,q,im⟩:=o;simp only[fc,Tf.nx];rw[T.US h k hk];have hq:=hS.next hn
    by_cases hg:lp k ag p=true
    ·rw[if_pos hg,if_pos hg]
     have ht:=T.nT h hP hc hS x (1 - k) im (min aw q);rw[GS h.b1,ht,<-ku];have O:1<=min aw q:=ae;have hm:=(fU (a:=T.b) (x:=1) (y:=min aw q) h.b1).2 O;have ay:=h.b1;have ax:=ih J (dA P S x (1 - k) im (min aw q)).1 (aw - min aw q) (hS.nT _ _ _ _) ae (by rw[ku];omega);rw[ax];simp only[aW]
     cases im<;>rfl
    ·rw[if_neg hg,if_neg hg]
     rfl
end
theorem pn.nd (h:pn P S):∀M∈S,(M.I.map (·.id)).Nodup:=fun M D=>by
 obtain⟨x,hx,rfl⟩:=kv.1 D;exact(h.xX x _ (aj hx)).nd
section
variable {T:Tf}
def Tf.sd (T:Tf) (s:Int):Int:=if T.zx=true∧(s=1∨s=2) then 3 - s else s
def Tf.rep (T:Tf) (r:ir):ir:=⟨r.kind,r.id+T.d,r.inst,T.sd r.side,T.pr r.ag,T.b*r.aw,T.b*r.left,r.fy⟩
def Tf.oO (T:Tf) (m:Mk):Mk:=⟨T.sm m.S,fun y=>m.used (y - T.d),m.un⟩
def Tf.cmd (T:Tf) (c:bN) (ky:List UInt8):bN:=⟨c.kind,c.id+T.d,c.inst,T.sd c.side,T.pr c.ag,T.b*c.aw,T.b*c.least,c.time,ky⟩
theorem Tf.Mq (k:Nat) (D:k<2):T.sd ((k:Int)+1)=((T.k k:Nat):Int)+1:=by
 unfold Tf.sd Tf.k;have:k=0\/k=1:=ae;rcases this with rfl|rfl<;>cases T.zx<;>simp
theorem Tf.UU:T.sd 0=0:=by unfold Tf.sd;simp
theorem Tf.SW (s:Int) (h:s=1\/s=2):T.sd (3 - s)=3 - T.sd s:=by
 unfold Tf.sd;rcases h with rfl|rfl<;>cases T.zx<;>simp
theorem Tf.UW:T.pr 0=0:=by unfold Tf.pr;split<;>simp
theorem Tf.WS (a b:Int):T.pr (a+b)=T.pr a+T.pr b:=by
 unfold Tf.pr
 split<;>rw[zN]<;>omega
theorem Tf.GX (a b:Int):T.pr (a - b)=T.pr a - T.pr b:=by
 unfold Tf.pr
 split<;>rw[ku]<;>omega
theorem Tf.Yy (id fy:Int):mH (id+T.d) fy=(mH id fy).map T.rep:=by
 simp[mH,Tf.rep,Tf.UU,Tf.UW]
theorem Tf.month (fl:List fG) (ag:Int) (j:Nat):jq (fl.map T.fill) (T.pr ag) j=T.pr (jq fl ag j):=by
 unfold jq;rw[List.find?_map];have:((fun f:fG=>f.inst==j)∘T.fill)=fun f=>f.inst==j:=rfl;rw[this]
 cases fl.find? fun f=>f.inst==j<;>rfl
theorem JU (J:P.low<=P.high) (x:Nat) (p:Int):lu P x p=if P.high<P.settle.getD (cy P.n x).2 0+p then (P.high,P.high - p) else if P.settle.getD (cy P.n x).2 0+p<P.low then (P.low,P.low - p) else (P.settle.getD (cy P.n x).2 0+p,P.settle.getD (cy P.n x).2 0):=by
 unfold lu
 generalize P.settle.getD (cy P.n x).2 0=D
 by_cases I:P.high<D+p
 ·simp only[if_pos I]
  rw[if_neg ae]
 ·simp only[if_neg I]
theorem Tf.X7 (h:T.Ok) (I:T.Pr P P') (x:Nat) (p:Int):lu P' x (T.pr p)=(T.pr (lu P x p).1,T.pr (lu P x p).2):=by
 obtain⟨D,ef⟩:=Zn (P.settle.getD (cy P.n x).2 0);have e1:P'.settle.getD (cy P'.n x).2 0=T.pr D:=by rw[I.n,I.settle,ef]
 have J:P'.low=if T.zx=true then T.pr P.high else T.pr P.low:=by rw[I.low,I.lo,<-I.X2,<-I.VY]
 have O:P'.high=if T.zx=true then T.pr P.low else T.pr P.high:=by rw[I.high,I.hi,<-I.X2,<-I.VY]
 have ay:=I.lh;have m1:=T.qK h (x:=P.high) (y:=D+p);have m2:=T.qK h (x:=D+p) (y:=P.low);have m3:=T.qK h (x:=P.high) (y:=P.low);have m4:=T.qK h (y:=P.high) (x:=D+p);have m5:=T.qK h (y:=D+p) (x:=P.low);have m6:=T.qK h (y:=P.high) (x:=P.low);have ax:P'.low<=P'.high:=by
  rw[J,O]
  cases hm:T.zx
  ·rw[hm] at m3
   simp only[dm,if_false] at m3⊢;omega
  ·rw[hm] at m6
   simp only[if_true] at m6⊢;omega
 rw[JU ax,JU ay,e1,<-ef,J,O];simp only[<-Tf.WS]
 cases hm:T.zx
 ·rw[hm] at m1 m2
  simp only[dm,if_false] at m1 m2⊢;simp only[m1,m2]
  split
  ·simp only[Tf.GX]
  ·split
   ·simp only[Tf.GX]
   ·rfl
 ·rw[hm] at m4 m5
  simp only[if_true] at m4 m5⊢;simp only[m4,m5]
  by_cases h1:P.high<D+p
  ·rw[if_pos h1,if_neg ae,if_pos h1]
   simp only[Tf.GX]
  ·rw[if_neg h1,if_neg h1]
   split
   ·simp only[Tf.GX]
   ·rfl
theorem Tf.WT (h:T.Ok) (D:T.Pr P P') (x:Nat) (st:jz):fg P' x (T.step st)=(T.pr (fg P x st).1,T.pr (fg P x st).2):=by
 unfold fg;rw[show(T.step st).imp=st.imp from rfl,show(T.step st).U=st.U.map T.fill from rfl,show(T.step st).ag=T.pr st.ag from rfl,T.month,T.month,T.X7 h D,D.n]
 split<;>rfl
theorem Tf.tell (h:T.Ok) (D:T.Pr P P') (st:jz) (r:ir) (hs:r.side=1\/r.side=2):lz P' (T.step st) (T.rep r)=(lz P st r).map T.rep:=by
 unfold lz;rw[show(T.rep r).inst=r.inst from rfl,D.n,T.WT h D]
 split
 ·rfl
 ·simp only[aW,oe,true_and]
  unfold nW;rw[show(T.rep r).inst=r.inst from rfl,D.n];simp only[aW,iM,oe,and_true];refine⟨rfl,?_⟩;unfold Tf.rep;simp only[ir.mk.injEq,true_and,and_true];exact(T.SW _ hs).symm
theorem Tf.X8 (f:fG) (D:f.k<2):oC (T.fill f)=T.rep (oC f):=by
 unfold oC Tf.rep Tf.fill;simp only[T.Mq _ D]
theorem SX {k:Nat} (D:k<2):(k:Int)+1=1\/(k:Int)+1=2:=ae
theorem Tf.X9 (h:T.Ok) (I:T.Pr P P') {k:Nat} (J:k<2) (x:Nat) (st:jz) (hf:∀f∈st.U,f.k<2) (id left:Int):nH P' (id+T.d) x (T.k k) (T.step st) (T.b*left)=(nH P id x k st left).map T.rep:=by
 unfold nH;rw[cx]
 congr 1
 ·rw[show(T.step st).U=st.U.map T.fill from rfl,List.flatMap_map,List.map_flatMap]
  have:∀l:List fG,(∀f∈l,f.k<2)->(l.flatMap fun f=>lz P' (T.step st) (oC (T.fill f)))=l.flatMap fun f=>(lz P st (oC f)).map T.rep:=by
   intro l
   induction l with
   |nil=>intro _;rfl
   |cons f l O=>
    intro D;rw[bj,bj,O fun g hg=>D g (by simp[hg]),T.X8 f (D f bT),T.tell h I st _ (SX (D f bT))]
  exact this _ hf
 ·rw[<-T.tell h I st ⟨3,id,x,(k:Int)+1,st.ag,st.aw,left,0⟩ (SX J)]
  unfold Tf.rep;simp only[T.Mq k J];rfl
theorem Tf.SY (h:T.Ok) (D:T.Pr P P') {k:Nat} (I:k<2) (x:Nat) (id:Int):∀(l:List jz) (left:Int),(∀st∈l,∀f∈st.U,f.k<2)->kj P' (id+T.d) x (T.k k) (l.map T.step) (T.b*left)=(kj P id x k l left).map T.rep
 |[],left,_=>rfl
 |st::l,left,J=>by
  simp only[aW,kj];rw[show(T.step st).aw=T.b*st.aw from rfl,<-ku,T.X9 h D I x st (J st bT),Tf.SY h D I x id l _ fun s hs=>J s (by simp[hs]),cx]
theorem Qb {x k:Nat} {t:Int} (D:k<2) (hi:∀y,im=some y->y.k0<2/\y.k1<2) {f:fG} (h:f∈(dA P S x k im t).2):f.k<2:=by
 unfold dA at h
 split at h
 ·rw[(sR h).2.1];exact D
 ·rename_i q
  rcases aJ.1 h with h|h
  ·rw[(sR h).2.1];exact(hi q rfl).1
  ·rw[(sR h).2.1];exact(hi q rfl).2
theorem S8 (P:PD) (x k:Nat) (D:k<2) (ag:Int):∀(f:Nat) (S:Sm) (aw:Int),∀st∈(dV P f S x k ag aw).2.1,∀y∈st.U,y.k<2
 |0,S,aw,st,h=>by simp[dV] at h
 |f+1,S,aw,st,h=>by
  unfold dV at h
  split at h
  ·simp at h
  ·split at h
   ·simp at h
   ·rename_i p q im hn
    split at h
    ·rcases a9.1 h with rfl|h
     ·intro y I
      exact Qb ae (fun z J=>by have:=NQ ae hn z J;exact⟨this.2.1,this.2.2.1⟩) I
     ·exact S8 P x k D ag f _ _ st h
    ·simp at h
theorem Tf.could (h:T.Ok) (D:T.Pr P P') (hc:T.b*c<=1000000) (x k:Nat) (I:k<2) (ag aw:Int) (hS:SB c S):
  ng P' (T.sm S) x (T.k k) (T.pr ag) (T.b*aw)=T.b*ng P S x k ag aw:=by
 unfold ng;rw[T.run h D hc x k I ag aw.toNat _ S aw hS (af _) (af _),ku]
theorem Tf.stuck (h:T.Ok) (I:T.Pr P P') (hc:T.b*c<=1000000) (x k:Nat) (J:k<2) (ag aw:Int) (hS:SB c S):
  lV P' (T.sm S) x (T.k k) (T.pr ag) (T.b*aw)=lV P S x k ag aw:=by
 unfold lV;rw[T.run h I hc x k J ag aw.toNat _ S aw hS (af _) (af _),I.n,<-T.Ai,T.all h (tp:=lU (dV P aw.toNat S x k ag aw).1) (fun x k=>T.WO h _ x k)];have O:(T.b*(dV P aw.toNat S x k ag aw).2.2 !=0)=((dV P aw.toNat S x k ag aw).2.2 !=0):=by
  have:=sP (a:=T.b) (x:=(dV P aw.toNat S x k ag aw).2.2) (y:=0) h.b1;rw[iN] at this
  by_cases D:(dV P aw.toNat S x k ag aw).2.2=0
  ·rw[D,iN]
  ·rw[bne_iff_ne.2 D,bne_iff_ne.2 (fun e=>D (this.1 e))]
 have e1:(fun q:Qt=>lp (T.k k) (T.pr ag) (T.qt q).ag)=fun q=>lp k ag q.ag:=by
  funext q
  exact T.US h k J ag q.ag
 simp only;rw[O,List.any_map];show(_ && (mG P.n _ x (1 - k)).any (fun q:Qt=>lp (T.k k) (T.pr ag) (T.qt q).ag))=_;rw[e1]
theorem Tf.Ms (h:T.Ok) (S:Sm) (x:Nat) (id q:Int):cutAt (T.sm S) x (id+T.d) (T.b*q)=T.sm (cutAt S x id q):=by
 unfold cutAt;rw[T.at_]
 cases D:S[x]? with
 |none=>rfl
 |some M=>
  simp only[fc];rw[T.cut h,T.set]
theorem Tf.WV (h:T.Ok) (S:Sm) (x k:Nat) (D:k<2) (id p q:Int):oW (T.sm S) x (T.k k) (id+T.d) (T.pr p) (T.b*q)=T.sm (oW S x k id p q):=by
 unfold oW;rw[T.at_]
 cases I:S[x]? with
 |none=>rfl
 |some M=>
  simp only[fc];rw[T.add h M k D,T.set]
theorem Tf.enter (h:T.Ok) (O:T.Pr P P') (hc:T.b*c<=1000000) (m:Mk) (hS:SB c m.S) (id:Int) (x k:Nat) (D:k<2) (ag aw time:Int):
  iE P' (T.oO m) (id+T.d) x (T.k k) (T.pr ag) (T.b*aw) time=(T.oO (iE P m id x k ag aw time).1,(iE P m id x k ag aw time).2.map T.rep):=by
 have hr:=T.run h O hc x k D ag aw.toNat _ m.S aw hS (af _) (af _);have hu:(T.oO m).used (id+T.d)=m.used id:=by show m.used (id+T.d - T.d)=_;rw[Int.add_sub_cancel]
 have hf:(fun y=>if y=id+T.d then true else (T.oO m).used y)=fun y=>(fun y=>if y=id then true else m.used y) (y - T.d):=by
  funext y
  by_cases hy:y=id+T.d
  ·subst hy;simp
  ·rw[if_neg hy]
   show _=if y - T.d=id then true else m.used (y - T.d);rw[if_neg ae];rfl
 unfold iE;simp only;rw[show(T.oO m).S=T.sm m.S from rfl,hr,hu,show(T.oO m).un=m.un from rfl,hf];simp only;rw[T.SY h O D x id _ aw (S8 P x k D ag _ _ _)];have ho:(⟨1,id+T.d,x,((T.k k:Nat):Int)+1,T.pr ag,T.b*aw,T.b*aw,0⟩:ir)=T.rep ⟨1,id,x,(k:Int)+1,ag,aw,aw,0⟩:=by
  unfold Tf.rep;simp only[T.Mq k D]
 have hz:T.b*(dV P aw.toNat m.S x k ag aw).2.2=0↔(dV P aw.toNat m.S x k ag aw).2.2=0:=by
  have:=sP (a:=T.b) (x:=(dV P aw.toNat m.S x k ag aw).2.2) (y:=0) h.b1;rw[iN] at this;exact this
 rw[ho]
 by_cases I:(dV P aw.toNat m.S x k ag aw).2.2=0
 ·rw[if_pos I,if_pos (hz.2 I)]
  rfl
 ·rw[if_neg I,if_neg (fun e=>I (hz.1 e))]
  by_cases J:time=1
  ·rw[if_pos J,if_pos J,T.WV h _ _ _ D]
   rfl
  ·rw[if_neg J,if_neg J,cx]
   simp only[Prod.mk.injEq];refine⟨rfl,?_⟩;simp only[aW,iM,fO];unfold Tf.rep;simp only[T.Mq k D,iN]
theorem Tf.len (S:Sm):cK (T.sm S)=cK S:=by
 have D:∀l:List iQ,(gY (l.map T.lvl)).length=(gY l).length:=fun l=>by
  unfold gY;rw[List.flatMap_map]
  induction l with
  |nil=>rfl
  |cons r l J=>rw[bj,bj,aC,aC,J];simp[Tf.lvl]
 have hm:∀M:BM,(T.bm M).I.length=M.I.length:=fun M=>by
  unfold BM.I Tf.bm
  cases T.zx
  ·simp[D]
  ·simp[D];omega
 unfold cK Tf.sm;rw[di]
 congr 1
 exact cJ fun M _=>hm M
theorem Tf.order (h:T.Ok) (J:T.Pr P P') (hc:T.b*c<=1000000) (m:Mk) (hS:SB c m.S) (y:bN) (ky:List UInt8) (hs:y.side=1\/y.side=2):
  lW P' (T.oO m) (T.cmd y ky)=(T.oO (lW P m y).1,(lW P m y).2.map T.rep):=by
 obtain⟨k,O,ek⟩:∃k:Nat,k<2/\y.side=(k:Int)+1:=by
  rcases hs with h|h
  ·exact⟨0,ae,ae⟩
  ·exact⟨1,ae,ae⟩
 have e1:(y.side - 1).toNat=k:=ae;have e2:((T.cmd y ky).side - 1).toNat=T.k k:=by
  show(T.sd y.side - 1).toNat=_;rw[ek,T.Mq k O];omega
 have hu:(T.oO m).used (y.id+T.d)=m.used y.id:=by show m.used (y.id+T.d - T.d)=_;rw[Int.add_sub_cancel]
 unfold lW;simp only;rw[e1,e2,show(T.cmd y ky).inst=y.inst from rfl,show(T.cmd y ky).ag=T.pr y.ag from rfl,show(T.cmd y ky).id=y.id+T.d from rfl,show(T.cmd y ky).aw=T.b*y.aw from rfl,show(T.cmd y ky).least=T.b*y.least from rfl,show(T.cmd y ky).time=y.time from rfl,
  T.oY h J,hu,show(T.oO m).S=T.sm m.S from rfl,T.len,T.could h J hc _ k O _ _ hS,T.stuck h J hc _ k O _ _ hS,T.enter h J hc m hS _ _ k O]
 obtain⟨D,el⟩:=Zn (if y.time=3 then y.aw else y.least);have hl:(if y.time=3 then T.b*y.aw else T.b*y.least)=T.b*D:=by rw[el];split<;>rfl
 rw[hl,<-el];have I:(0<T.b*D)=(0<D):=propext (mul_pos_iff h.b1);have ax:(T.b*ng P m.S y.inst.toNat k y.ag y.aw<T.b*D)=(ng P m.S y.inst.toNat k y.ag y.aw<D):=propext (p8 h.b1);simp only[I,ax,T.Yy]
 repeat' split
 all_goals rfl
theorem Tf.NR (l:List iQ) (id:Int):np (l.map T.lvl) (id+T.d)=(np l id).map fun r=>(T.pr r.1,T.aK r.2):=by
 induction l with
 |nil=>rfl
 |cons r l D=>
  unfold np at D⊢;rw[aW,rT,rT];have e:(T.lvl r).2.find? (fun e=>e.id==id+T.d)=(r.2.find? fun e=>e.id==id).map T.aK:=by
   show(r.2.map T.aK).find? _=_;rw[List.find?_map]
   congr 2
   funext e
   show(e.id+T.d==id+T.d)=(e.id==id)
   by_cases he:e.id=id
   ·rw[he];simp
   ·have:e.id+T.d≠id+T.d:=ae
    rw[beq_eq_false_iff_ne.2 he,beq_eq_false_iff_ne.2 this]
  rw[e]
  cases r.2.find? fun e=>e.id==id with
  |none=>exact D
  |some e=>rfl
theorem FN {l:List iQ} {id p:Int} {e:dn} (h:np l id=some (p,e)):e∈gY l/\e.id=id:=by
 obtain⟨r,D,_,I,J⟩:=wP h;exact⟨dD.2 ⟨r,D,I⟩,J⟩
theorem Tf.Ya (M:BM) (hn:(M.I.map (·.id)).Nodup) (id:Int):uy (T.bm M) (id+T.d)=(uy M id).map fun r=>(T.k r.1,T.pr r.2.1,T.aK r.2.2):=by
 unfold uy Tf.bm
 cases hm:T.zx
 ·simp only[dm,if_false]
  rw[T.NR,T.NR];have D:∀k,T.k k=k:=fun k=>by unfold Tf.k;rw[hm];simp
  cases np M.s0 id with
  |some r=>simp[D]
  |none=>cases np M.s1 id<;>simp[D]
 ·simp only[if_true]
  rw[T.NR,T.NR];have D:∀k,T.k k=1 - k:=fun k=>by unfold Tf.k;rw[hm];simp
  cases J:np M.s0 id with
  |some r=>
   cases O:np M.s1 id with
   |some r'=>
    exfalso;obtain⟨a1,a2⟩:=FN (p:=r.1) (e:=r.2) J;obtain⟨b1,b2⟩:=FN (p:=r'.1) (e:=r'.2) O;unfold BM.I at hn;rw[cx,dw] at hn;exact hn.2.2 _ (aV.2 ⟨_,a1,a2⟩) _ (aV.2 ⟨_,b1,b2⟩) rfl
   |none=>simp[D]
  |none=>cases np M.s1 id<;>simp[D]
theorem Tf.Ye (S:Sm) (hn:∀M∈S,(M.I.map (·.id)).Nodup) (id:Int):sX (T.sm S) (id+T.d)=(sX S id).map fun r=>(r.1,T.k r.2.1,T.pr r.2.2.1,T.aK r.2.2.2):=by
 unfold sX;rw[show(T.sm S).length=S.length from by unfold Tf.sm;simp]
 generalize List.range S.length=l
 induction l with
 |nil=>rfl
 |cons x l D=>
  rw[rT,rT,T.at_]
  cases J:S[x]? with
  |none=>exact D
  |some M=>
   simp only[fc,Option.bind_some];rw[T.Ya M (hn M (aH J)) id]
   cases uy M id with
   |none=>exact D
   |some r=>rfl
theorem SB.cutAt (h:SB c S) (x:Nat) (id q:Int) (D:0<=q):SB c (cutAt S x id q):=by
 unfold Go.Proofs.YtbaaheidifacaaaGreat.cutAt
 split
 ·rename_i M I
  exact h.set x ((h.bm I).cut id q D)
 ·exact h
theorem Tf.cancel (h:T.Ok) (m:Mk) (id:Int) (x k:Nat) (D:k<2) (p:Int) (e:dn):
  dG (T.oO m) (id+T.d) x (T.k k) (T.pr p) (T.aK e)=(T.oO (dG m id x k p e).1,(dG m id x k p e).2.map T.rep):=by
 unfold dG;rw[show(T.oO m).S=T.sm m.S from rfl,show(T.aK e).aw=T.b*e.aw from rfl,T.Ms h];simp only[Prod.mk.injEq,aW,iM,oe,and_true];refine⟨rfl,?_⟩;unfold Tf.rep;simp only[T.Mq k D,iN]
theorem Tf.reduce (h:T.Ok) (m:Mk) (id aw:Int) (x k:Nat) (D:k<2) (p:Int) (e:dn):
  jh (T.oO m) (id+T.d) (T.b*aw) x (T.k k) (T.pr p) (T.aK e)=(T.oO (jh m id aw x k p e).1,(jh m id aw x k p e).2.map T.rep):=by
 unfold jh;rw[show(T.oO m).S=T.sm m.S from rfl,show(T.aK e).aw=T.b*e.aw from rfl,T.Ms h];simp only[Prod.mk.injEq,aW,iM,oe,and_true];refine⟨rfl,?_⟩;unfold Tf.rep;simp only[T.Mq k D,ku]
theorem Tf.replace (h:T.Ok) (I:T.Pr P P') (hc:T.b*c<=1000000) (m:Mk) (hS:SB c m.S) (y:bN) (ky:List UInt8) (x k:Nat) (D:k<2) (p:Int) (e:dn) (he:0<=e.aw):
  replaceM P' (T.oO m) (T.cmd y ky) x (T.k k) (T.pr p) (T.aK e)=(T.oO (replaceM P m y x k p e).1,(replaceM P m y x k p e).2.map T.rep):=by
 unfold replaceM;simp only;rw[show(T.cmd y ky).ag=T.pr y.ag from rfl,show(T.cmd y ky).id=y.id+T.d from rfl,show(T.cmd y ky).aw=T.b*y.aw from rfl,show(T.aK e).aw=T.b*e.aw from rfl,<-ku,
  T.fy h I,show(T.oO m).S=T.sm m.S from rfl,T.Ms h,T.stuck h I hc _ k D _ _ (hS.cutAt _ _ _ he),T.reduce h m y.id (e.aw - y.aw) x k D p e,T.cancel h m y.id x k D p e,T.Yy,T.Yy]
 have e1:(T.pr y.ag=T.pr p/\T.b*y.aw<=T.b*e.aw)=(y.ag=p/\y.aw<=e.aw):=by
  rw[propext (T.VX h),propext (fU h.b1)]
 simp only[e1];rw[T.enter h I hc (dG m y.id x k p e).1 (hS.cutAt _ _ _ he) y.id x k D]
 repeat' split
 all_goals first
  |rfl
  |(simp only[cx])
theorem Tf.Zz (h:T.Ok) (O:T.Pr P P') (hc:T.b*c<=1000000) (m:Mk) (hS:SB c m.S) (hn:∀M∈m.S,(M.I.map (·.id)).Nodup) (y:bN) (ky:List UInt8)
  (h1:dx y=0) (h2:dx (T.cmd y ky)=0) (hs:y.kind=1->y.side=1\/y.side=2):
  pC P' (T.oO m) (T.cmd y ky)=(T.oO (pC P m y).1,(pC P m y).2.map T.rep):=by
 unfold pC;have z0:¬((0:Nat)≠0):=ae;rw[h1,h2,if_neg z0,if_neg z0,show(T.cmd y ky).kind=y.kind from rfl]
 by_cases D:y.kind=1
 ·rw[if_pos D,if_pos D]
  exact T.order h O hc m hS y ky (hs D)
 ·rw[if_neg D,if_neg D,show(T.cmd y ky).id=y.id+T.d from rfl,show(T.oO m).S=T.sm m.S from rfl,T.Ye m.S hn]
  cases hf:sX m.S y.id with
  |none=>
   simp only[Option.map_none];rw[T.Yy]
  |some r=>
   obtain⟨x,k,p,e⟩:=r;simp only[fc];obtain⟨M,hM,J,r,hr,h3,h4,h5⟩:=sJ hf;have he:1<=e.aw:=((hS.at_ hM hr).2 e h4).1;have e1:(y.kind=2\/T.b*e.aw<=T.b*y.aw)=(y.kind=2\/e.aw<=y.aw):=by rw[propext (fU h.b1)]
   rw[show(T.aK e).aw=T.b*e.aw from rfl,show(T.cmd y ky).aw=T.b*y.aw from rfl,T.replace h O hc m hS y ky x k J p e ae,T.cancel h m y.id x k J p e,T.reduce h m y.id y.aw x k J p e];simp only[e1]
   repeat' split
   all_goals rfl
def WW (R:bN→bN→Prop):List bN→List bN→Prop
 |[],[]=>True
 |a::l,b::l'=>R a b∧WW R l l'
 |_,_=>False
theorem Tf.runs (h:T.Ok) (J:T.Pr P P') (hc:T.b*c<=1000000):∀(l l':List bN) (m:Mk),
  WW (fun y y'=>dx y=0/\dx y'=0/\(y.kind=1->y.side=1\/y.side=2)/\∃ky,y'=T.cmd y ky) l l'->
  (∀n,SB c (runM P m (l.take n)).1.S/\∀M∈(runM P m (l.take n)).1.S,(M.I.map (·.id)).Nodup)->
  runM P' (T.oO m) l'=(T.oO (runM P m l).1,(runM P m l).2.map T.rep)
 |[],[],m,_,_=>rfl
 |a::l,[],m,hr,_=>hr.elim
 |[],b::l',m,hr,_=>hr.elim
 |a::l,b::l',m,hr,hf=>by
  obtain⟨⟨r1,r2,O,ky,rfl⟩,hr⟩:=hr;have D:=hf 0;simp only[QA,runM] at D;have hd:=T.Zz h J hc m D.1 D.2 a ky r1 r2 O;unfold runM;rw[hd];simp only;rw[Tf.runs h J hc l l' (pC P m a).1 hr fun n=>by
   have:=hf (n+1);rw[nB] at this;unfold runM at this;exact this]
  simp only[cx]
theorem Tf.UX (D:T.Pr P P'):T.oO (Mk.new P)=Mk.new P':=by
 unfold Tf.oO Mk.new Tf.sm;rw[Tf.count D];simp only[Mk.mk.injEq,and_true];rw[List.map_replicate]
 congr 1
 unfold Tf.bm
 cases T.zx<;>rfl
end
end Go.Proofs.YtbaaheidifacaaaGreat
