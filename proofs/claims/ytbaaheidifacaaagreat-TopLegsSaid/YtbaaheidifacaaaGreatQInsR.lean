import Derived.Test.YtbaaheidifacaaaGreatQArena6
import Derived.Deep.RegionLaw
import Derived.Laws.IdiomCopy
import Derived.Lib.SliceRun
import Derived.Lib.AppendZerosOnto
import Derived.Lib.Overlaps
import Derived.Laws.Externs
set_option linter.defProp false
set_option linter.unusedVariables false
set_option linter.unusedSimpArgs false
set_option maxRecDepth 100000
set_option maxHeartbeats 12800000
namespace Go.Proofs.YtbaaheidifacaaaGreat
variable {F:Nat→Prop} {P:Program} {cur:Array Value} {g:Nat}
open Go.RowKit Go.Lib
theorem OD {α:Type} (l:List α) (o:Nat) (v:α) (vs:List α) (h:o<l.length):(l.set o v).take (o+1)++vs++(l.set o v).drop (o+1+vs.length)=l.take o++(v::vs)++l.drop (o+(v::vs).length):=by
 have e1:(l.set o v).take (o+1)=l.take o++[v]:=by
  rw[bC,aD h,List.take_set,List.set_eq_of_length_le (by rw[bJ];omega)];rfl
 have e2:(l.set o v).drop (o+1+vs.length)=l.drop (o+1+vs.length):=List.drop_set_of_lt ae;rw[e1,e2,bI,(ae:o+(vs.length+1)=o+1+vs.length)];simp
theorem jB (g:Nat) (t:TypeId):∀(vs:List Value) (o:Nat) (w:World) (cur:Array Value),w.heap[g]?=some (.cells cur t (0,0))->o+vs.length<=cur.size->
  (w.setCells g o vs).heap[g]?=some (.cells (cur.toList.take o++vs++cur.toList.drop (o+vs.length)).toArray t (0,0))
 |[],o,w,cur,h,D=>by simp[World.setCells,h]
 |v::vs,o,w,cur,h,D=>by
  simp at D;have I:=heap_setCell_same w g o cur t v h;have:=jB g t vs (o+1) (w.setCell ⟨g,o,none⟩ v) (cur.setIfInBounds o v) I iW;rw[World.setCells,this]
  congr 2
  apply Array.ext';simp only[QB];exact OD cur.toList o v vs iW
theorem pJ (g:Nat):∀(vs:List Value) (o:Nat) (w:World) (k:Nat),k≠g->(w.setCells g o vs).heap[k]?=w.heap[k]?
 |[],_,_,_,_=>rfl
 |v::vs,o,w,k,D=>by
  rw[World.setCells,pJ g vs _ _ k D];exact av _ _ _ _ D
theorem kX (hg:F g):∀(vs:List Value) (o:Nat) {w0 w:World},Lv F w0 w->Lv F w0 (w.setCells g o vs)
 |[],_,_,_,h=>h
 |v::vs,o,w0,w,h=>kX hg vs (o+1) (h.setCell (p:=⟨g,o,none⟩) hg v)
theorem uZ (w:World) (dT sT ty elem:TypeId) (size b o D J:Nat) (a:Addr) (I O:Nat) (cs:List Value)
  (hu:P.underlying dT=some (.slice elem)) (hs:(P.info? elem).map (·.size)=some size) (hn:cs.length=Nat.min I D*size)
  (ax:∀j v,cs[j]?=some v->w.cell? (a.add j)=some v) (hc:∀j,j<cs.length->(w.cell? ⟨b,o+j,none⟩).isSome=true) (hf:∀j,j<cs.length->w.frozen? ⟨b,o+j,none⟩=false) (h1:∀v∈cs,v.oneCell'=true):
  (Builtin.copy_ #[dT,sT] ty #[.slice (some ⟨b,o,none⟩) D J, .slice (some a) I O]).run P w= .ok (goInt (Nat.min I D)) (w.setCells b o cs):=by
 have hl:=run_loadCells_list (P:=P) w a cs ax;have ay:=run_storeCells_cells (P:=P) b o cs 0 w (by simpa using hc) (by simpa using hf) h1
 cases hq:P.info? elem with
 |none=>simp[hq] at hs
 |some i=>
  have hi:i.size=size:=by simpa[hq] using hs
  simp[Builtin.copy_,run_underlying hu,Builtin.lenOf,Builtin.firstCells,sizeOf,typeInfo,hq,hi,<-hn,hl,ay]
theorem gF {w:World} {t:TypeId} (h:w.heap[g]?=some (.cells cur t (0,0))) (j:Nat):w.cell? ⟨g,j,none⟩=cur[j]?/\w.frozen? ⟨g,j,none⟩=false:=by
 simp[World.cell?,World.frozen?,h]
def tQ (r:Int×Nat):List Value:=[Iz r.1,Iz (r.2:Int)]
theorem mX (r:Int×Nat):(tQ r).length=2:=rfl
def cB (l:List (Int×Nat)):List Value:=l.flatMap tQ
theorem kh (l:List (Int×Nat)):(cB l).length=l.length*2:=dX mX l
theorem rb (l:List (Int×Nat)):∀u∈cB l,u.oneCell'=true:=tJ (fun q u hu=>by
 simp only[tQ,a9,xd,or_false] at hu;rcases hu with rfl|rfl<;>rfl) l
theorem sy:∀(l:List (Int×Nat)) (i:Nat),(cB l).take (i*2)=cB (l.take i)
 |[],i=>by simp[cB]
 |r::l,0=>by simp[cB]
 |r::l,i+1=>by
  have:=sy l i;simp only[cB,bj,tQ] at this⊢;rw[(ae:(i+1)*2=i*2+1+1)];simp[tQ,this]
theorem sC:∀(l:List (Int×Nat)) (i:Nat),(cB l).drop (i*2)=cB (l.drop i)
 |[],i=>by simp[cB]
 |r::l,0=>by simp[cB]
 |r::l,i+1=>by
  have:=sC l i;simp only[cB,bj,tQ] at this⊢;rw[(ae:(i+1)*2=i*2+1+1)];simp[tQ,this]
theorem mY (l m:List (Int×Nat)):cB (l++m)=cB l++cB m:=by simp[cB]
theorem KJ (w:World) (t e ty:TypeId) (z:Value) (J:P.underlying t=some (.slice e)) (hv:∀w,(zeroValue e).run P w= .ok z w) (b o n c:Nat) (hn:0<n) (cs:List Value) (D:(Builtin.zeroCells z.cells n).toList=cs)
  (O:∀v∈cs,v.oneCell'=true) (hc:∀j,j<cs.length->(w.cell? ⟨b,o+j,none⟩).isSome=true) (hf:∀j,j<cs.length->w.frozen? ⟨b,o+j,none⟩=false):
  (Builtin.clear_ #[t] ty #[.slice (some ⟨b,o,none⟩) n c]).run P w= .ok (.tuple #[]) (w.setCells b o cs):=by
 have I:=run_storeCells_cells (P:=P) b o cs 0 w (by simpa using hc) (by simpa using hf) O;obtain⟨m,rfl⟩:∃m,n=m+1:=⟨n - 1,ae⟩;simp[Builtin.clear_,run_underlying J,hv,D,I]
theorem OE:(Builtin.zeroCells (Value.agg #[Iz 0,Iz 0]).cells 1).toList=[Iz 0,Iz 0]:=by
 simp[Builtin.zeroCells,Value.cells,List.range,List.range.loop,Array.range]
theorem Tryz.Re (w:World):(zeroValue 227).run Tryz.prog w= .ok (.agg #[Iz 0,Iz 0]) w:=by kernel_rfl
theorem Ic (g c:Nat) (l:List (Int×Nat)) (n i j:Nat) (w:World) (h:w.ownsRow 0 227 2 (.slice (some ⟨g,0,none⟩) n c) n (cB l)) (hn:l.length=n) (hj:j=i+1) (hi:i<n) (bh:n<=1000000):
  Wz 177 #[.slice (some ⟨g,0,none⟩) n c,Iz (i:Int),Iz (j:Int)] w fun e w'=>e= .returned (.slice (some ⟨g,0,none⟩) (n - 1) c)/\
   w'.ownsRow 0 227 2 (.slice (some ⟨g,0,none⟩) (n - 1) c) (n - 1) (cB (l.eraseIdx i))/\Lv (fun k=>k=g) w w':=by
 obtain⟨_,cur,hg,hs,bp,a7,hx⟩:=ju h;obtain⟨i0,a8,bt,ba,bE⟩:=nM.info;obtain⟨news,D⟩:=Zn (cB (l.drop j));have hlen:news.length=(n - j)*2:=by rw[D,kh,cu,hn]
 have I:∀t u,news[t]?=some u->Cz w.drew g (j*2+t) u:=by
  intro t u hu;have ht:t<news.length:=(az.1 hu).1;rw[D,<-sC,jH,<-hx,gB ae] at hu;show w.cell? _=_;rw[(gF hg _).1];simpa using hu
 obtain⟨A,hA,a2⟩:∃A:Addr,(if c=j then some (⟨g,0,none⟩:Addr) else some ⟨g,j*2,none⟩)=some A/\Hid (∀t u,news[t]?=some u->w.drew.cell? (A.add t)=some u):=by
  by_cases a5:c=j
  ·refine⟨⟨g,0,none⟩,by simp[a5],fun t u hu=>?_⟩
   have h0:news.length=0:=by rw[hlen];omega
   rw[List.length_eq_zero_iff.1 h0] at hu;simp at hu
  ·refine⟨⟨g,j*2,none⟩,by simp[a5],fun t u hu=>?_⟩
   rw[Addr.add_lit];exact I t u hu
 have s1:Hid (news.length=(n - j)*2):=hlen;have s2:Hid (∀u∈news,u.oneCell'=true):=D▸rb _;have s3:Hid (∀t,t<news.length->(w.drew.cell? ⟨g,0+i*2+t,none⟩).isSome=true/\Fz w.drew g (0+i*2+t)):=by
  intro t ht;refine⟨?_,(gF hg _).2⟩;show(w.cell? _).isSome=true;rw[(gF hg _).1,dY ae];rfl
 obtain⟨W1,J⟩:=Zn (w.drew.setCells g (0+i*2) news);have O:W1.heap[g]?=some (.cells (cur.toList.take (i*2)++news++cur.toList.drop (i*2+news.length)).toArray 227 (0,0)):=by
  rw[J,ec];exact jB g _ news (i*2) w.drew cur hg ae
 have ay:(cur.toList.take (i*2)++news++cur.toList.drop (i*2+news.length)).length=c*2:=iW;have bb:∀ty,(Builtin.clear_ #[192] ty #[.slice (some ⟨g,(n - 1)*2,none⟩) 1 (c - (n - 1))]).run Tryz.prog W1= .ok (.tuple #[]) (W1.setCells g ((n - 1)*2) [Iz 0,Iz 0]):=fun ty=>
  KJ W1 _ _ ty _ Tryz.underlying192 Tryz.Re g ((n - 1)*2) 1 _ ae _ OE (by intro v hv;simp at hv;rcases hv with rfl|rfl<;>rfl)
   (fun t ht=>by
    rw[(gF O _).1,dY (by simp at ht⊢;omega)];rfl)
   (fun t ht=>(gF O _).2)
 obtain⟨W2,ax⟩:=Zn (W1.setCells g ((n - 1)*2) [Iz 0,Iz 0]);rw[<-ax] at bb;have LF:Lv (fun k=>k=g) w W2:=ax▸J▸kX (F:=fun k=>k=g) rfl _ _ (kX (F:=fun k=>k=g) rfl _ _ (Lv.refl _ w).drew);have fin:W2.ownsRow 0 227 2 (.slice (some ⟨g,0,none⟩) (n - 1) c) (n - 1) (cB (l.eraseIdx i)):=by
  have a6:=jB g _ [Iz 0,Iz 0] ((n - 1)*2) W1 _ O iW;rw[<-ax] at a6;refine⟨by rw[kh,iU,if_pos ae,hn], .inr ⟨g,c,_,rfl,aB _,a6,ae,a7,iW,?_⟩⟩;have e1:cur.toList.take (i*2)=cB (l.take i):=by
   rw[<-sy,<-hx,px];congr 1;omega
  have e2:l.eraseIdx i=l.take i++l.drop j:=by rw[p9,hj]
  rw[e2,mY,<-e1,<-D];have a0:(cur.toList.take (i*2)++news).length=(n - 1)*2:=iW;have hT:∀L:List Value,L.toArray.toList=L:=fun L=>bT;simp only[hT,bD];rw[<-bD (cur.toList.take (i*2))];rw[lI (by rw[bJ,aC,a0];simp),px,Nat.min_self,lI (a0▸af _),aL (a0▸af _)]
 have hW:Hid (W1=w.drew.setCells g (0+i*2) news):=J;have bH:i<=c:=ae;have bQ:j<=c:=ae;have bR:j<=n:=ae;have bU:i<=j:=ae;have bV:¬((i:Int)=(j:Int)):=ae;have b0:¬(n=i):=ae;have b2:¬(c=n - 1):=ae;have b7:i+(n - j)=n - 1:=ae;have b8:n - (n - 1)=1:=ae;obtain⟨bc,bf,HJ,HH⟩:=mh fin LF hj (And.intro hg (And.intro hs (And.intro hx ay)));clear J O I D hlen hg hs hx ay fin LF ax h hj
 go_enter Tryz.func177,Tryz.ntmps177
 go_wp2_with fail
 go_region_law (refine step_append_room rfl (.tmp 22) (.tmp 25) 192 rfl 227 i0 2 nM.under a8 ba g 0 i c (by simp[Act.eval,Act.put]) A (n - j) (c - j) news (by simp[Act.eval,Act.put]) s1 a2.h s2 ae s3 ?_;rw[<-hW.h])
 go_wp2;go_ret;exact⟨rfl,bc,bf⟩
theorem Ie {M:Nat} {x y:Value} (h:0<M):[x,y].length=Nat.min 1 M*2:=by
 have:Nat.min 1 M=1:=by simp only[Xe];split<;>omega
 rw[this];rfl
theorem Rf {a b k:Nat} (h:b=k) (D:k<=a):k*2=Nat.min a b*2:=by
 have:Nat.min a b=k:=by simp only[Xe];split<;>omega
 rw[this]
theorem Rg {a b:Nat} (h:b=a):a*2=Nat.min a b*2:=by
 have:Nat.min a b=a:=by simp only[Xe];split<;>omega
 rw[this]
def T9 (w w':World) (A:Option Addr) (n c:Nat) (l:List (Int×Nat)) (i:Nat) (r:Int×Nat) (e:Ending):Prop:=
 ∃A' c',e= .returned (.slice A' (n+1) c')∧w'.ownsRow 0 227 2 (.slice A' (n+1) c') (n+1) (cB (l.take i++r::l.drop i))∧
  ((Value.slice A' (n+1) c').ownBlock=(Value.slice A n c).ownBlock∨∃g,(Value.slice A' (n+1) c').ownBlock=some g∧w.heap.size≤g)∧Lv (fun k=>some k=(Value.slice A n c).ownBlock) w w'
theorem Rh (A:Option Addr) (c:Nat) (l:List (Int×Nat)) (n vb:Nat) (x:Int) (q:Nat) (w:World) (h:w.ownsRow 0 227 2 (.slice A n c) n (cB l)) (hn:l.length=n) (ay:n<=1000000)
  (hv:aE w vb 227 #[Iz x,Iz (q:Int)]):
  Wz 188 #[.slice A n c,Iz (n:Int), .slice (some ⟨vb,0,none⟩) 1 1] w fun e w'=>T9 w w' A n c l n (x,q) e:=by
 have hc:Cells w (some ⟨vb,0,none⟩) [Iz x,Iz (q:Int)]:=fun _=>⟨vb,0,rfl,hv.lt,fun k u hu=>by
  rw[ec,hv.cell k];simpa using hu⟩
 have hle:n<=c:=by
  obtain⟨A',c',ax,h1,_⟩:=gD h;injection ax with _ _ a0;omega
 have J:=ao hn;clear hn;rcases A with _|a
 ·obtain rfl:=oh h rfl
  obtain rfl:n=0:=ae
  go_enter Tryz.func188,Tryz.ntmps188
  go_wp2_with (at_builtin
               refine kS nM h rfl _ _ rfl rfl rfl (news:=[Iz x,Iz (q:Int)]) rfl bT hc (by intro u hu;simp at hu;rcases hu with rfl|rfl<;>rfl) ae (aB _) 1 _ ae rfl ?_;intro A' c' w2 D)
  go_ret;refine⟨A',c',rfl,?_,?_,?_⟩
  ·have:=D.own
   rw[aP J.h] at this⊢;exact this
  ·rcases D.jV with I|I
   ·exact .inl I
   ·exact .inr ⟨_,I,af _⟩
  ·exact Lv.dy D.grown fun k O=> .inl O.symm
 ·by_cases a2:c=n
  ·have i1:¬(n:Int)<0:=ae
   go_enter Tryz.func188,Tryz.ntmps188
   go_wp2_with (at_builtin
                refine kS nM h rfl _ _ rfl rfl rfl (news:=[Iz x,Iz (q:Int)]) rfl bT hc (by intro u hu;simp at hu;rcases hu with rfl|rfl<;>rfl) ae (aB _) (n+1) _ ae rfl ?_;intro A' c' w2 D)
   go_ret;refine⟨A',c',rfl,?_,?_,?_⟩
   ·have:=D.own
    rw[show l.take n++(x,q)::l.drop n=l++[(x,q)] by rw[aL (J.h▸af _),Vm (J.h▸af _)],mY];exact this
   ·rcases D.jV with I|I
    ·exact .inl I
    ·exact .inr ⟨_,I,af _⟩
   ·exact Lv.dy D.grown fun k O=> .inl O.symm
  ·have i1:¬(n:Int)<0:=ae
   go_enter Tryz.func188,Tryz.ntmps188
   go_wp2_with (at_builtin
                refine kS nM h rfl _ _ rfl rfl rfl (news:=[Iz x,Iz (q:Int)]) rfl bT hc (by intro u hu;simp at hu;rcases hu with rfl|rfl<;>rfl) ae (aB _) (n+1) _ ae rfl ?_;intro A' c' w2 D)
   go_ret;refine⟨A',c',rfl,?_,?_,?_⟩
   ·have:=D.own
    rw[show l.take n++(x,q)::l.drop n=l++[(x,q)] by rw[aL (J.h▸af _),Vm (J.h▸af _)],mY];exact this
   ·rcases D.jV with I|I
    ·exact .inl I
    ·exact .inr ⟨_,I,af _⟩
   ·exact Lv.dy D.grown fun k O=> .inl O.symm
theorem Tryz.Ri (w:World):(Go.sizeOf 227).run Tryz.prog w= .ok 2 w:=by kernel_rfl
theorem vd:(Tryz.prog.info? 227).map (·.size)=some 2:=by kernel_rfl
theorem KK (g c:Nat) (l:List (Int×Nat)) (n i vb:Nat) (x:Int) (q:Nat) (w:World) (h:w.ownsRow 0 227 2 (.slice (some ⟨g,0,none⟩) n c) n (cB l)) (hn:l.length=n) (bU:n<=1000000) (hi:i<n) (ba:n+1<=c)
  (hv:aE w vb 227 #[Iz x,Iz (q:Int)]) (a5:vb≠g):
  Wz 188 #[.slice (some ⟨g,0,none⟩) n c,Iz (i:Int), .slice (some ⟨vb,0,none⟩) 1 1] w fun e w'=>T9 w w' (some ⟨g,0,none⟩) n c l i (x,q) e:=by
 obtain⟨_,cur,hg,hs,bb,bc,hx⟩:=ju h;obtain⟨j,hj⟩:=Zn (i+1);obtain⟨N,hN⟩:=Zn (n+1);obtain⟨T,hT⟩:=Zn (cB (l.drop i));have a6:T.length=(n - i)*2:=by rw[hT,kh,cu,hn]
 have bf:∀u∈T,u.oneCell'=true:=hT▸rb _;have D:∀(t:Nat) (u:Value),T[t]?=some u->w.drew.cell? (Addr.add ⟨g,i*2,none⟩ t)=some u:=by
  intro t u hu;have ht:t<T.length:=(az.1 hu).1;rw[hT,<-sC,jH,<-hx,gB ae] at hu;rw[Addr.add_lit];show w.cell? _=_;rw[(gF hg _).1];simpa using hu
 have hV:∀(t:Nat) (u:Value),[Value.int .i64 x,Iz (q:Int)][t]?=some u->w.cell? ⟨vb,t,none⟩=some u:=by
  intro t u hu;rw[hv.cell t];simpa using hu
 have bh:∀u∈[Value.int .i64 x,Iz (q:Int)],u.oneCell'=true:=by intro u hu;simp at hu;rcases hu with rfl|rfl<;>rfl
 have ax:w.shape? vb=some (227,2):=by unfold aE at hv;simp[World.shape?,hv]
 have ay:w.shape? g=some (227,cur.size):=by simp[World.shape?,hg]
 have bp:∀lb cb,(callFunc 192 #[.slice (some ⟨vb,0,none⟩) 1 1, .slice (some ⟨g,j*2,none⟩) lb cb]).run Tryz.prog w= .ok (.value (.bool false)) w:=fun lb cb=>by
  rw[run_callFunc_extern Tryz.func192 (by kernel_rfl) (by kernel_rfl) (by kernel_rfl) (e:=Extern.SlicesOverlaps.overlaps #[192,192] #[4]) (by kernel_rfl),
   Lib.run_overlaps_apart w 192 4 227 nM.under 2 Tryz.Ri ⟨vb,0,none⟩ ⟨g,j*2,none⟩ 1 1 lb cb a5 _ _ 2 cur.size ax ay ae (hv.frozen 0) (hv.frozen 2)]
  rfl
 have a0:∀ty dc sc,(Builtin.copy_ #[192,192] ty #[.slice (some ⟨g,j*2,none⟩) (N - j) dc, .slice (some ⟨g,i*2,none⟩) (N - i) sc]).run Tryz.prog w.drew= .ok (goInt (Nat.min (N - i) (N - j))) (w.drew.setCells g (j*2) T):=fun ty dc sc=>
  uZ w.drew _ _ ty 227 2 g (j*2) (N - j) dc ⟨g,i*2,none⟩ (N - i) sc T nM.under vd (a6▸Rf ae ae) D
   (fun t ht=>by show(w.cell? _).isSome=true;rw[(gF hg _).1,dY ae];rfl) (fun t ht=>(gF hg _).2) bf
 obtain⟨W1,I⟩:=Zn (w.drew.setCells g (j*2) T);have J:W1.heap[g]?=some (.cells (cur.toList.take (j*2)++T++cur.toList.drop (j*2+T.length)).toArray 227 (0,0)):=I▸jB g _ T (j*2) w.drew cur hg ae;have bt:W1.heap[vb]?=w.heap[vb]?:=I▸pJ g _ _ _ _ a5;have a2:∀ty dc,(Builtin.copy_ #[192,192] ty #[.slice (some ⟨g,i*2,none⟩) (N - i) dc, .slice (some ⟨vb,0,none⟩) 1 1]).run Tryz.prog W1= .ok (goInt (Nat.min 1 (N - i))) (W1.setCells g (i*2) [Iz x,Iz (q:Int)]):=fun ty dc=>
  uZ W1 _ _ ty 227 2 g (i*2) (N - i) dc ⟨vb,0,none⟩ 1 1 _ nM.under vd (Ie ae)
   (fun t u hu=>by
    rw[Addr.add_lit,ec];exact Yd bt (hV t u hu))
   (fun t ht=>by rw[(gF J _).1,dY (by simp at ht⊢;omega)];rfl) (fun t ht=>(gF J _).2) bh
 obtain⟨W2,O⟩:=Zn (W1.setCells g (i*2) [Iz x,Iz (q:Int)]);have LF:Lv (fun k=>some k=(Value.slice (some ⟨g,0,none⟩) n c).ownBlock) w W2:=O▸I▸kX (F:=fun k=>some k=(Value.slice (some ⟨g,0,none⟩) n c).ownBlock) rfl _ _ (kX (F:=fun k=>some k=(Value.slice (some ⟨g,0,none⟩) n c).ownBlock) rfl _ _ (Lv.refl _ w).drew);have fin:W2.ownsRow 0 227 2 (.slice (some ⟨g,0,none⟩) (n+1) c) (n+1) (cB (l.take i++(x,q)::l.drop i)):=by
  have a7:=jB g _ [Iz x,Iz (q:Int)] (i*2) W1 _ J iW;rw[<-O] at a7;refine⟨by rw[kh];simp;omega, .inr ⟨g,c,_,rfl,aB _,a7,ae,bc,iW,?_⟩⟩;have e1:cur.toList.take (i*2)=cB (l.take i):=by
   rw[<-sy,<-hx,px];congr 1;omega
  have bE:∀L:List Value,L.toArray.toList=L:=fun L=>bT;have hH:cB (l.take i++(x,q)::l.drop i)=(cur.toList.take (i*2)++[Iz x,Iz (q:Int)])++T:=by rw[mY,<-e1,hT];simp[cB,tQ]
  have a8:(cur.toList.take (j*2)).length=j*2:=iW;have bH:(cur.toList.take (i*2)++[Value.int .i64 x,Iz (q:Int)]).length=j*2:=iW;have e4:(cur.toList.take (j*2)++T++cur.toList.drop (j*2+T.length)).take (i*2)=cur.toList.take (i*2):=by
   rw[bD,lI (by rw[a8];omega),px]
   congr 1
   omega
  have e5:(cur.toList.take (j*2)++T++cur.toList.drop (j*2+T.length)).drop (i*2+[Value.int .i64 x,Iz (q:Int)].length)=T++cur.toList.drop (j*2+T.length):=by
   rw[bD];exact List.drop_left' (by rw[a8];simp;omega)
  simp only[bE,e4,e5];rw[hH,<-bD];exact rQ (by rw[aC,bH];omega)
 rw[<-O] at a2;obtain⟨bQ,bR⟩:=dF fin LF;rw[<-I] at a0;have bV:IntKind.i64.wrap ((i:Int)+1)=(j:Int):=by rw[aN _ ae];omega
 have b0:IntKind.i64.wrap ((n:Int)+1)=(N:Int):=by rw[aN _ ae];omega
 have b1:¬(i:Int)=(n:Int):=ae;have b2:¬(c:Int)<(N:Int):=ae;have b3:N<=c:=ae;have b4:j<=N:=ae;have b5:i<=N:=ae;have b6:¬c=i:=ae;have b7:¬c=j:=ae;have b8:i<=n:=ae;have EN:Hid (N=n+1):=ao hN;clear hj hN hg hs hx hT a6 D hV J I O fin LF bb h hn ax ay
 go_enter Tryz.func188,Tryz.ntmps188
 go_wp2_with (simp only[bp])
 go_region_law (refine AR rfl _ _ 192 192 rfl _ _ (by simp[Act.eval,Act.put]) (by simp[Act.eval,Act.put]) (a0 _ _ _) ?_)
 go_wp2_with (at_builtin;refine yu _ rfl _ _ 192 192 rfl _ _ rfl rfl (a2 _ _) ?_)
 go_ret;refine⟨some ⟨g,0,none⟩,c,by have:=EN.h;subst this;rfl,bQ, .inl rfl,bR⟩
theorem vR (k:Nat):(Builtin.zeroCells (Value.agg #[Iz 0,Iz 0]).cells k).size=k*2:=by simp[Builtin.zeroCells,Value.cells]
theorem OG (g c:Nat) (l:List (Int×Nat)) (n i vb:Nat) (x:Int) (q:Nat) (w:World) (h:w.ownsRow 0 227 2 (.slice (some ⟨g,0,none⟩) n c) n (cB l)) (hn:l.length=n) (cQ:n<=1000000) (hi:i<n) (bR:c<n+1)
  (hv:aE w vb 227 #[Iz x,Iz (q:Int)]):
  Wz 188 #[.slice (some ⟨g,0,none⟩) n c,Iz (i:Int), .slice (some ⟨vb,0,none⟩) 1 1] w fun e w'=>T9 w w' (some ⟨g,0,none⟩) n c l i (x,q) e:=by
 obtain⟨_,cur,hg,hs,bU,cS,hx⟩:=ju h;obtain⟨i0,bV,b0,cd,bp⟩:=nM.info;obtain⟨j,hj⟩:=Zn (i+1);obtain⟨N,hN⟩:=Zn (n+1);obtain⟨M,hM⟩:=Zn (N - i);obtain⟨T,hT⟩:=Zn (cB (l.drop i));obtain⟨H,hH⟩:=Zn (cB (l.take i));have bt:T.length=(n - i)*2:=by rw[hT,kh,cu,hn]
 have bc:H.length=i*2:=by rw[hH,kh,bJ];omega
 have cf:∀u∈T,u.oneCell'=true:=by rw[hT];exact rb _
 have ck:g<w.heap.size:=(aU.1 hg).1;have ax:∀(t:Nat) (u:Value),T[t]?=some u->w.cell? ⟨g,i*2+t,none⟩=some u:=by
  intro t u hu;have ht:t<T.length:=(az.1 hu).1;rw[hT,<-sC,jH,<-hx,gB ae] at hu;rw[(gF hg _).1];simpa using hu
 have ay:∀(t:Nat) (u:Value),H[t]?=some u->w.cell? ⟨g,t,none⟩=some u:=by
  intro t u hu;have ht:t<H.length:=(az.1 hu).1;rw[hH,<-sy,<-hx,px,gB ae] at hu;rw[(gF hg _).1];simpa using hu
 have hV:∀(t:Nat) (u:Value),[Value.int .i64 x,Iz (q:Int)][t]?=some u->w.cell? ⟨vb,t,none⟩=some u:=by
  intro t u hu;rw[hv.cell t];simpa using hu
 have cl:∀u∈[Value.int .i64 x,Iz (q:Int)],u.oneCell'=true:=by intro u hu;simp at hu;rcases hu with rfl|rfl<;>rfl
 have hold:(Builtin.firstCells i0.size i (.slice (some ⟨g,0,none⟩) i c)).run Tryz.prog w.drew= .ok H.toArray w.drew:=by
  rw[cd];exact run_firstCells_some w.drew 2 i ⟨g,0,none⟩ i c H bc (fun t u hu=>by rw[Addr.add_lit,ec];exact ay t u hu)
 obtain⟨G,hG⟩:=Zn (grownCap w N c 227);have cm:N<=G:=by rw[hG];exact grownCap_ge w _ _ _
 have bE:G<=maxLen:=by rw[hG];exact grownCap_le_maxLen w _ _ _ (by unfold maxLen;omega)
 have bf:i+M=N:=ae;obtain⟨D,J⟩:=Zn (H.toArray++Builtin.zeroCells (Value.agg #[Iz 0,Iz 0]).cells M++Builtin.zeroCells (Value.agg #[Iz 0,Iz 0]).cells (G - N):Array Value);have cn:D.size=G*2:=by rw[J,Array.size_append,Array.size_append,vR,vR];simp;omega
 have bH:∀ty,(Builtin.append_ #[192,3] ty #[.slice (some ⟨g,0,none⟩) i c,Iz (M:Int)]).run Tryz.prog w= .ok (.slice (some ⟨w.heap.size,0,none⟩) N G) (w.drew.alloc (.cells D 227)):=fun ty=>by
  have hh:=Lib.run_append_grow_zeros w 192 3 ty 227 i0 _ .i64 .i64 nM.under Tryz.underlying3 bV b0 (some ⟨g,0,none⟩) i c H hold M ae ae ae ae (by rw[bp];omega) (by rw[bp,bf];exact growslice_fits ae ae);rw[bf,<-hG,<-J] at hh;exact hh
 obtain⟨W1,a0⟩:=Zn (w.drew.alloc (.cells D 227));have a6:W1.heap[w.heap.size]?=some (.cells D 227 (0,0)):=by rw[a0];exact heap_alloc_new w.drew _
 have I:∀k,k<w.heap.size->W1.heap[k]?=w.heap[k]?:=fun k hk=>by rw[a0];exact du w.drew _ k hk
 have ba:∀ty dc,(Builtin.copy_ #[192,192] ty #[.slice (some ⟨w.heap.size,i*2,none⟩) M dc, .slice (some ⟨vb,0,none⟩) 1 1]).run Tryz.prog W1= .ok (goInt (Nat.min 1 M)) (W1.setCells w.heap.size (i*2) [Value.int .i64 x,Iz (q:Int)]):=fun ty dc=>
  uZ W1 _ _ ty 227 2 w.heap.size (i*2) M dc ⟨vb,0,none⟩ 1 1 _ nM.under vd (Ie ae)
   (fun t u hu=>by
    rw[Addr.add_lit,ec,gK (a:=⟨vb,t,none⟩) (I vb hv.lt)];exact hV t u hu)
   (fun t ht=>by rw[(gF a6 _).1,dY (by simp at ht;omega)];rfl) (fun t ht=>(gF a6 _).2) cl
 obtain⟨W2,a2⟩:=Zn (W1.setCells w.heap.size (i*2) [Value.int .i64 x,Iz (q:Int)]);have a7:W2.heap[w.heap.size]?=some (.cells (D.toList.take (i*2)++[Value.int .i64 x,Iz (q:Int)]++D.toList.drop (i*2+2)).toArray 227 (0,0)):=by
  rw[a2];exact jB _ _ _ (i*2) W1 D a6 iW
 have O:(D.toList.take (i*2)++[Value.int .i64 x,Iz (q:Int)]++D.toList.drop (i*2+2)).length=G*2:=iW;have a5:∀k,k<w.heap.size->W2.heap[k]?=w.heap[k]?:=fun k hk=>by rw[a2,pJ _ _ _ _ _ ae];exact I k hk
 have bb:∀ty dc sc,(Builtin.copy_ #[192,192] ty #[.slice (some ⟨w.heap.size,j*2,none⟩) (N - j) dc, .slice (some ⟨g,i*2,none⟩) (n - i) sc]).run Tryz.prog W2.drew= .ok (goInt (Nat.min (n - i) (N - j))) (W2.drew.setCells w.heap.size (j*2) T):=fun ty dc sc=>
  uZ W2.drew _ _ ty 227 2 w.heap.size (j*2) (N - j) dc ⟨g,i*2,none⟩ (n - i) sc T nM.under vd (by rw[bt];exact Rg ae)
   (fun t u hu=>by
    rw[Addr.add_lit];show W2.cell? _=_;rw[gK (a:=⟨g,i*2+t,none⟩) (a5 g ck)];exact ax t u hu)
   (fun t ht=>by show(W2.cell? _).isSome=true;rw[(gF a7 _).1,dY (by simp only[Hg];rw[O];omega)];rfl) (fun t ht=>(gF a7 _).2) cf
 obtain⟨W3,a8⟩:=Zn (W2.drew.setCells w.heap.size (j*2) T);have bh:=jB w.heap.size _ T (j*2) W2.drew _ a7 (by simp only[Hg];rw[O];omega);rw[<-a8] at bh;have LF:Lv (fun k=>some k=(Value.slice (some ⟨g,0,none⟩) n c).ownBlock) w W3:=by
  refine Lv.bL ?_;have b1:Bz w W1:=by rw[a0];exact(aS (aa _ w)).alloc (af _) _
  have l2:Lv (fun k=>k=w.heap.size) W1 W2:=by rw[a2];exact kX (F:=fun k=>k=w.heap.size) rfl _ _ (Lv.refl _ _)
  have l3:Lv (fun k=>k=w.heap.size) W2 W3:=by rw[a8];exact kX (F:=fun k=>k=w.heap.size) rfl _ _ (Lv.refl _ W2).drew
  have l4:Lv (fun k=>k=w.heap.size) w W3:=(Lv.iD b1 l2).then l3;exact l4.below (fun k hk=>by have cT:k=w.heap.size:=hk;omega) (af _)
 have fin:W3.ownsRow 0 227 2 (.slice (some ⟨w.heap.size,0,none⟩) (n+1) G) (n+1) (cB (l.take i++(x,q)::l.drop i)):=by
  refine⟨by rw[kh];simp;omega, .inr ⟨w.heap.size,G,_,rfl,aB _,bh,ae,bE,by simp only[Hg,aC,bJ,cu,O];omega,?_⟩⟩;have ct:∀L:List Value,L.toArray.toList=L:=fun L=>bT;have cv:D.toList=H++((Builtin.zeroCells (Value.agg #[Iz 0,Iz 0]).cells M).toList++(Builtin.zeroCells (Value.agg #[Iz 0,Iz 0]).cells (G - N)).toList):=by rw[J];simp
  have e0:D.toList.take (i*2)=H:=by
   rw[cv];exact rQ bc
  have e3:cB (l.take i++(x,q)::l.drop i)=(H++[Value.int .i64 x,Iz (q:Int)])++T:=by rw[mY,hH,hT];simp[cB,tQ]
  have bQ:(H++[Value.int .i64 x,Iz (q:Int)]).length=j*2:=iW;have e6:(D.toList.take (i*2)++[Value.int .i64 x,Iz (q:Int)]++D.toList.drop (i*2+2)).take (j*2)=H++[Value.int .i64 x,Iz (q:Int)]:=by
   rw[e0];exact rQ bQ
  simp only[ct,e6];rw[e3];exact rQ (by rw[aC,bQ];omega)
 rw[<-a0] at bH;rw[<-a2] at ba;rw[<-a8] at bb;obtain⟨cF,cH⟩:=dF fin LF;have cX:IntKind.i64.wrap ((i:Int)+1)=(j:Int):=by rw[aN _ ae];omega
 have c0:IntKind.i64.wrap ((n:Int)+1)=(N:Int):=by rw[aN _ ae];omega
 have dp:IntKind.i64.wrap ((N:Int) - (i:Int))=(M:Int):=by rw[aN _ ae];omega
 have dS:N - i=M:=ae;have b1:¬(i:Int)=(n:Int):=ae;have b2:(c:Int)<(N:Int):=ae;have b3:i<=c:=ae;have b4:j<=N:=ae;have b5:i<=N:=ae;have b6:¬G=i:=ae;have b7:¬G=j:=ae;have b8:i<=n:=ae;have b9:¬c=i:=ae;have EN:Hid (N=n+1):=ao hN;have dT:=ao hM;clear hj hN hM hg hs hx hT bt ax ay hV a6 a7 bh O a0 a2 a8 fin LF bU h hn hH bc hold hG cm bE J cn I a5 bf;obtain⟨Z,hZ⟩:=Zn w.heap.size
 go_enter Tryz.func188,Tryz.ntmps188
 go_wp2_with (first
  |(at_builtin;refine Lib.wpList_append_run _ rfl _ _ _ _ rfl _ _ rfl rfl _ _ (bH _) ?_)
  |(at_builtin;refine yu _ rfl _ _ 192 192 rfl _ _ rfl rfl (ba _ _) ?_))
 go_region_law (refine AR rfl _ _ 192 192 rfl _ _ (by simp[Act.eval,Act.put]) (by simp[Act.eval,Act.put]) (bb _ _ _) ?_)
 go_wp2;go_ret;refine⟨some ⟨w.heap.size,0,none⟩,G,by have:=EN.h;subst this;rfl,cF, .inr ⟨_,rfl,af _⟩,cH⟩
theorem Ig (A:Option Addr) (c:Nat) (l:List (Int×Nat)) (n i vb:Nat) (x:Int) (q:Nat) (w:World) (h:w.ownsRow 0 227 2 (.slice A n c) n (cB l)) (hn:l.length=n) (D:n<=1000000) (hi:i<=n)
  (hv:aE w vb 227 #[Iz x,Iz (q:Int)]) (J:∀g,(Value.slice A n c).ownBlock=some g->vb≠g):
  Wz 188 #[.slice A n c,Iz (i:Int), .slice (some ⟨vb,0,none⟩) 1 1] w fun e w'=>T9 w w' A n c l i (x,q) e:=by
 by_cases O:i=n
 ·subst O
  exact Rh A c l i vb x q w h hn D hv
 ·have I:i<n:=ae
  obtain⟨g,rfl,_,_⟩:=kz h ae
  by_cases hr:n+1<=c
  ·exact KK g c l n i vb x q w h hn D I hr hv (J g rfl)
  ·exact OG g c l n i vb x q w h hn D I ae hv
end Go.Proofs.YtbaaheidifacaaaGreat
