import Derived.Test.YtbaaheidifacaaaGreatQBase
import Derived.OrdersHeld
import Derived.Deep.RegionHeld
set_option linter.defProp false
set_option linter.unusedVariables false
set_option linter.unusedSimpArgs false
set_option maxRecDepth 100000
set_option maxHeartbeats 12800000
namespace Go.Proofs.YtbaaheidifacaaaGreat
variable {B fuel i id n z:Nat} {R:World→World→Prop} {S S':World→Prop} {Z is mv:List Nat} {a:Act} {bs:List Bool} {fin:Act→World→Prop} {l:List Oper} {listed:Array Bool} {o oi:Oper} {ops:Array Oper} {v:Value} {w:World}
open Go.RowKit
section
variable {P:Program} {ops:Array Oper} {Q:Exit→Act→World→Prop} {md:Region.Mode}
def tG (P:Program) (md:Region.Mode) (ops:Array Oper) (Q:Exit→Act→World→Prop) (z:Nat) (S:World→Prop):Nat→Array Bool→Act→World→Prop
 |0,listed,a,w=>Region.ready md ops listed=[]∧Q .normal a w
 |fuel+1,listed,a,w=>
  (Region.ready md ops listed=[]→Q .normal a w)∧
  ∀i∈Region.ready md ops listed,wpOp P ops Q i (fun a' w'=>(i≠z→S w')∧tG P md ops Q z S fuel (listed.setIfInBounds i true) a' w') a w
theorem yp (h:∀u,S' u->S u):∀(fuel:Nat) (listed:Array Bool) (a:Act) (w:World),tG P md ops Q z S' fuel listed a w->tG P md ops Q z S fuel listed a w
 |0,_,_,_,D=>D
 |fuel+1,_,_,_,D=>⟨D.1,fun i hi=>wpOp_mono (fun a' w' I=>⟨fun J=>h _ (I.1 J),yp h fuel _ a' w' I.2⟩) (D.2 i hi)⟩
theorem Ay:∀(fuel:Nat) (listed:Array Bool) (a:Act) (w:World),tG P md ops Q z S fuel listed a w->wpAny P md ops Q fuel listed a w
 |0,_,_,_,h=>h
 |fuel+1,_,_,_,h=>⟨h.1,fun i hi=>wpOp_mono (fun a' w' D=>Ay fuel _ a' w' D.2) (h.2 i hi)⟩
def oH (md:Region.Mode) (ops:Array Oper) (listed:Array Bool):Prop:=
 ∀k o,ops[k]?=some o→listed.getD k false=true→∀e∈o.after,Region.binds md e=true→listed.getD e.on false=true
theorem oH.set (h:oH md ops listed) (hi:i∈Region.ready md ops listed):oH md ops (listed.setIfInBounds i true):=by
 intro k o O hk e he hb
 by_cases D:i=k
 ·subst D
  obtain⟨_,o',I,J⟩:=mem_ready.1 hi;rw[O] at I;obtain rfl:=bW I;exact getD_set_true (J e he hb)
 ·rw[getD_set_ne false D] at hk
  exact getD_set_true (h k o O hk e he hb)
theorem oH.none (n:Nat):oH md ops (Array.replicate n false):=by
 intro k o I D;simp[Array.getElem?_replicate] at D
 split at D<;>simp at D
def reaches (md:Region.Mode) (ops:Array Oper) (k:Nat):Nat→Nat→Bool
 |0,j=>k==j
 |fuel+1,j=>k==j||((ops[j]?).map fun o=>o.after.any fun e=>Region.binds md e && reaches md ops k fuel e.on).getD false
theorem sj {k:Nat} (hc:oH md ops listed):∀(fuel j:Nat),reaches md ops k fuel j=true->(∀o,ops[j]?=some o->∀e∈o.after,Region.binds md e=true->listed.getD e.on false=true)->k=j\/listed.getD k false=true
 |0,j,h,_=> .inl (by simpa[reaches] using h)
 |fuel+1,j,h,hj=>by
  simp only[reaches,MU] at h;rcases h with h|h
  ·exact .inl (by simpa using h)
  ·cases D:ops[j]? with
   |none=>rw[D] at h;simp at h
   |some o=>
    rw[D] at h;simp only[fc,qo,Array.any_eq_true'] at h;obtain⟨e,he,I⟩:=h;simp only[dv] at I;have h2:=hj o D e he I.1;rcases sj hc fuel e.on I.2 (fun o' J e' O ax=>hc e.on o' J h2 e' O ax) with h3|h3
    ·exact .inr (h3▸h2)
    ·exact .inr h3
def vM (md:Region.Mode) (ops:Array Oper) (z:Nat):Bool:=
 decide (ops.size≤z)||(List.range ops.size).all fun k=>reaches md ops k 20 z
theorem Ob (h:vM md ops z=true) (hc:oH md ops listed) (hz:z∈Region.ready md ops listed) (hi:i∈Region.ready md ops listed):i=z:=by
 obtain⟨a0,o,ho,D⟩:=mem_ready.1 hz;obtain⟨I,oi,ax, -⟩:=mem_ready.1 hi;have a2:=(aU.1 ho).1;have ay:=(aU.1 ax).1;simp only[vM,MU,decide_eq_true_eq,fN,iT] at h;rcases h with h|h
 ·omega
 ·rcases sj hc 20 z (h i ay) (fun o' J e he hb=>by rw[ho] at J;obtain rfl:=bW J;exact D e he hb) with h1|O
  ·exact h1
  ·rcases pq i listed.size with h'|h'
   ·simp[h'] at O I;rw[I] at O;cases O
   ·simp[lN h'] at O
theorem Ef (hi:ops[i]?=some oi) (O:Region.noSelect ops=true) (ht:vM md ops z=true)
  (hQ:∀c a w,Q (.panic c) (a.put oi.dst v) w->Q (.panic c) a w):
  ∀(fuel:Nat) (listed:Array Bool) (a:Act) (w:World),
   (∀j oj,ops[j]?=some oj->j≠i->listed.getD j true=false->(∀e∈oj.after,Region.binds md e=true->e.on≠i)->oi.apart ops oj=true)->
   oH md ops listed->i∈Region.ready md ops listed->YieldsIf P ops S oi v a->S w->
   tG P md ops Q z S fuel (listed.setIfInBounds i true) (a.put oi.dst v) w->tG P md ops Q z S (fuel+1) listed a w:=by
 intro fuel
 induction fuel with
 |zero=>
  intro listed a w _ ay hr hy hS H;refine⟨fun h=>(by rw[h] at hr;cases hr),fun j hj=>?_⟩
  by_cases D:j=i
  ·subst D;exact hy.wpOp hi hS ⟨fun _=>hS,H⟩
  ·have:=ready_mono hj D
   rw[H.1] at this
   cases this
 |succ fuel ih=>
  intro listed a w I ay hr hy hS H;refine⟨fun h=>(by rw[h] at hr;cases hr),fun j hj=>?_⟩
  by_cases D:j=i
  ·subst D;exact hy.wpOp hi hS ⟨fun _=>hS,H⟩
  ·have h1:=H.2 j (ready_mono hj D)
   have a2:j≠z:=fun he=>D (by subst he;exact(Ob ht ay hj hr).symm);obtain⟨ax,oj,a0,a5⟩:=mem_ready.1 hj;have a6:∀e∈oj.after,Region.binds md e=true->e.on≠i:=fun e he hb heq=>by
    have h1:=a5 e he hb;have h0:=(mem_ready.1 hr).1;rw[heq] at h1;rcases pq i listed.size with h'|h'
    ·simp[h'] at h0 h1;rw[h0] at h1;cases h1
    ·simp[lN h'] at h1
   have h2:=wpOp_putIf a0 (I j oj a0 D ax a6) (fun cs b=>qV O i oi cs b hi) (fun cs b=>qV O j oj cs b a0) hQ hy h1;have J:∀k ok,ops[k]?=some ok->k≠i->(listed.setIfInBounds j true).getD k true=false->
     (∀e∈ok.after,Region.binds md e=true->e.on≠i)->oi.apart ops ok=true:=fun k ok hk ba a7 bb=>by
    refine I k ok hk ba ?_ bb
    by_cases a8:j=k
    ·subst a8;exact ax
    ·rw[getD_set_ne true a8] at a7;exact a7
   refine wpOp_mono (fun a' w' h3=>⟨fun _=>h3.2.1 a2,ih (listed.setIfInBounds j true) a' w' J (ay.set hj) (ready_mono hr (Ne.symm D)) h3.1 (h3.2.1 a2) ?_⟩) h2;rw[TF _ _ D];exact h3.2.2
def fQ (P:Program) (l:List Oper) (Q:Exit→Act→World→Prop) (R:World→World→Prop) (mv:List Nat) (z:Nat):List Nat→Act→World→Prop
 |[],a,w=>Q .normal a w
 |i::is,a,w=>
  if mv.contains i then wpOp P l.toArray Q i (fun a' w'=>(i≠z→R w w')∧fQ P l Q R mv z is a' w') a w
  else ∃v o,l.toArray[i]?=some o∧YieldsIf P l.toArray (R w) o v a∧fQ P l Q R mv z is (a.put o.dst v) w
def Az (md:Region.Mode) (ops:Array Oper) (mv:List Nat) (z:Nat):List Nat→Array Bool→Bool
 |[],listed=>(Region.ready md ops listed).isEmpty
 |i::is,listed=>(if mv.contains i then (Region.ready md ops listed)==[i] && (!(i==z)||is.isEmpty) else Region.free md ops listed i && (Region.ready md ops listed).contains i) && Az md ops mv z is (listed.setIfInBounds i true)
theorem oX (hR:∀a b c,R a b->R b c->R a c) (hrefl:∀a,R a a) (hs:Region.noSelect l.toArray=true) (ht:vM md l.toArray z=true)
  (hQ:∀c a (d:Tmp) v w,Q (.panic c) (Act.put a (some d) v) w->Q (.panic c) a w):
  ∀(is:List Nat) (listed:Array Bool) (a:Act) (w:World),oH md l.toArray listed->Az md l.toArray mv z is listed=true->fQ P l Q R mv z is a w->tG P md l.toArray Q z (R w) is.length listed a w
 |[],listed,a,w,I,hB,h=>by
  refine⟨?_,h⟩;simpa[Az,J8] using hB
 |i::is,listed,a,w,I,hB,h=>by
  simp only[Az,dv] at hB;obtain⟨D,J⟩:=hB;simp only[fQ] at h
  by_cases hm:mv.contains i=true
  ·rw[if_pos hm] at D h
   simp only[dv] at D;have hr:Region.ready md l.toArray listed=[i]:=by simpa using D.1
   refine⟨fun h0=>absurd (hr▸h0) bT,?_⟩;rw[hr];intro j hj;obtain rfl:j=i:=by simpa using hj
   by_cases hz:j=z
   ·have ax:is=[]:=by simpa[hz] using D.2
    subst ax;refine wpOp_mono (fun a' w' O=>⟨O.1,?_⟩) h;have:=oX hR hrefl hs ht hQ [] _ a' w' (I.set (by rw[hr];simp)) J O.2;exact this
   ·refine wpOp_mono (fun a' w' O=>⟨O.1,?_⟩) h
    exact yp (fun u hu=>hR _ _ _ (O.1 hz) hu) _ _ _ _ (oX hR hrefl hs ht hQ is _ a' w' (I.set (by rw[hr];simp)) J O.2)
  ·rw[if_neg hm] at D h
   obtain⟨v,o,ho,hy,h⟩:=h;simp only[dv] at D;exact Ef ho hs ht (fun c a w hh=>by cases hd:o.dst<;>rw[hd] at hh<;>first|exact hQ _ _ _ _ _ hh|exact hh) _ _ _ _ (fun j oj hj ay a0 a2=>J9 ho D.1 j oj hj ay a0 a2) I (by simpa using D.2) hy (hrefl w) (oX hR hrefl hs ht hQ is _ _ w (I.set (by simpa using D.2)) J h)
theorem bx (z:Nat) (mv is:List Nat) (hm:P.follows .mixedOrders=true) (hR:∀a b c,R a b->R b c->R a c) (hrefl:∀a,R a a)
  (D:(Region.noSelect l.toArray && vM .any l.toArray z && Az .any l.toArray mv z is (Array.replicate l.toArray.size false) && (is.length==l.toArray.size))=true) (J:∀c a (d:Tmp) v w,Q (.panic c) (Act.put a (some d) v) w->Q (.panic c) a w)
  (h:fQ P l Q R mv z is a w.drew):(Code.region id l.toArray true).wp P Q a w:=by
 simp only[dv] at D;obtain⟨⟨⟨hs,O⟩,D⟩,I⟩:=D;have I:is.length=l.toArray.size:=by simpa using I
 refine wp_region_any hm (Ay (z:=z) (S:=R w.drew) _ _ _ _ ?_);rw[<-I] at D⊢;exact oX hR hrefl hs O J is _ a _ (oH.none _) D h
def lR:List Oper→Nat→Option Oper
 |[],_=>none
 |o::_,0=>some o
 |_::l,n+1=>lR l n
theorem mj:∀(l:List Oper) (n:Nat),l.toArray[n]?=lR l n
 |[],n=>by simp[lR]
 |o::l,0=>by simp[lR]
 |o::l,n+1=>by have:=mj l n;simpa[lR] using this
theorem Oc (hm:mv.contains i=false) (D:lR l i=some o) (hw:Region.wanted o (yielded l.toArray a.tmps)=true)
  (I:∀w',R w w'->(execOp a.eval o).run P w'= .ok (.value v) w') (h:fQ P l Q R mv z is (a.put o.dst v) w):fQ P l Q R mv z (i::is) a w:=by
 simp only[fQ,hm,dm,if_false];exact⟨v,o,(mj l i).trans D, .inl ⟨hw,I⟩,h⟩
theorem Od (I:lR l i=some o) (hw:Region.wanted o (yielded l.toArray a.tmps)=false)
  (h:fQ P l Q R mv z is (a.put o.dst undef) w) (hrefl:R w w):fQ P l Q R mv z (i::is) a w:=by
 have D:=(mj l i).trans I
 by_cases hm:mv.contains i=true
 ·simp only[fQ,hm,if_true]
  unfold wpOp;simp only[D,hw,dm,if_false];exact⟨fun _=>hrefl,h⟩
 ·simp only[fQ,hm]
  exact⟨undef,o,D, .inr ⟨hw,rfl⟩,h⟩
theorem Eg (hm:mv.contains i=true) (I:lR l i=some o) (hw:Region.wanted o (yielded l.toArray a.tmps)=true)
  (h:∀K:Act->World->Prop,Hid (∀a' w',R w w'->fQ P l Q R mv z is a' w'->K a' w')->Oper.wp P o a w K Q):fQ P l Q R mv z (i::is) a w:=by
 have D:=(mj l i).trans I;simp only[fQ,hm,if_true];unfold wpOp;simp only[D,hw,if_true];exact .inl (h _ fun a' w' hr hg=>⟨fun _=>hr,hg⟩)
theorem Oe (hm:mv.contains i=true) (I:(i==z)=true) (J:lR l i=some o) (hw:Region.wanted o (yielded l.toArray a.tmps)=true)
  (h:∀K:Act->World->Prop,Hid (∀a' w',fQ P l Q R mv z is a' w'->K a' w')->Oper.wp P o a w K Q):fQ P l Q R mv z (i::is) a w:=by
 have D:=(mj l i).trans J;simp only[fQ,hm,if_true];unfold wpOp;simp only[D,hw,if_true];exact .inl (h _ fun a' w' hg=>⟨fun h=>absurd (by simpa using I) h,hg⟩)
theorem aT (h:Q .normal a w):fQ P l Q R mv z [] a w:=h
end
def aR (w w':World):Prop:=Bz w w'
theorem aR.tr (a b c:World) (h:aR a b) (D:aR b c):aR a c:=dW h D
theorem aR.J (a:World):aR a a:=aa _ _
theorem dH.tr (B:Nat) (a b c:World) (h:Below B a b) (D:Below B b c):Below B a c:=h.trans D
theorem dH.J (B:Nat) (a:World):Below B a a:=aa _ _
def mV (v:Nat) (a b:World):Prop:=b.heap[v]?=a.heap[v]?
theorem mV.tr (v:Nat) (a b c:World) (h:mV v a b) (D:mV v b c):mV v a c:=ZE D h
theorem mV.J (v:Nat) (a:World):mV v a a:=rfl
theorem Zu:(∀(a:Act) (v:Value),a.put none v=a)/\(∀(a:Act) (d:Tmp) (v:Value),a.put (some d) v={a with tmps:=a.tmps.setIfInBounds d v})/\
  (∀(l:List Value) (i:Nat) (v:Value),l.toArray.setIfInBounds i v=(l.set i v).toArray)/\(∀(x:Value) (l:List Value) (v:Value),(x::l).set 0 v=v::l)/\(∀(x:Value) (l:List Value) (i:Nat) (v:Value),(x::l).set (i+1) v=x::l.set i v):=
 ⟨fun _ _=>rfl,fun _ _ _=>rfl,fun _ _ _=>List.setIfInBounds_toArray ..,fun _ _ _=>rfl,fun _ _ _ _=>rfl⟩
section
variable {P:Program} {Q:Exit→Act→World→Prop}
theorem Zs (h:fQ P l Q R mv z is (a.put o.dst undef) w) (D:lR l i=some o:=by rfl) (hw:Region.wanted o (yielded l.toArray a.tmps)=false:=by rfl)
  (hr:R w w:=by first|exact aR.J _|exact dH.J _ _|exact mV.J _ _):fQ P l Q R mv z (i::is) a w:=Od D hw h hr
theorem Zt (h:fQ P l Q R mv z is (a.put o.dst v) w) (hm:mv.contains i=false:=by rfl) (D:lR l i=some o:=by rfl) (hw:Region.wanted o (yielded l.toArray a.tmps)=true:=by rfl)
  (I:∀w',R w w'->(execOp a.eval o).run P w'= .ok (.value v) w':=by intro w' J;go_simp;(try(with_reducible rfl));done):fQ P l Q R mv z (i::is) a w:=Oc hm D hw I h
theorem Zm (h:∀K:Act->World->Prop,Hid (∀a' w',R w w'->fQ P l Q R mv z is a' w'->K a' w')->Oper.wp P o a w K Q) (hm:mv.contains i=true:=by rfl) (D:lR l i=some o:=by rfl)
  (hw:Region.wanted o (yielded l.toArray a.tmps)=true:=by rfl):fQ P l Q R mv z (i::is) a w:=Eg hm D hw h
theorem Zl (h:∀K:Act->World->Prop,Hid (∀a' w',fQ P l Q R mv z is a' w'->K a' w')->Oper.wp P o a w K Q) (hm:mv.contains i=true:=by rfl) (D:(i==z)=true:=by rfl) (I:lR l i=some o:=by rfl)
  (hw:Region.wanted o (yielded l.toArray a.tmps)=true:=by rfl):fQ P l Q R mv z (i::is) a w:=Oe hm D I hw h
theorem Zb (B z:Nat) (mv is:List Nat) (h:fQ P l Q (Below B) mv z is a w.drew) (hm:P.follows .mixedOrders=true:=by kernel_rfl)
  (D:(Region.noSelect l.toArray && vM .any l.toArray z && Az .any l.toArray mv z is (Array.replicate l.toArray.size false) && (is.length==l.toArray.size))=true:=by kernel_rfl) (I:∀c a (d:Tmp) v w,Q (.panic c) (Act.put a (some d) v) w->Q (.panic c) a w:=by exact fun _ _ _ _ _ h=>h):(Code.region id l.toArray true).wp P Q a w:=
 bx z mv is hm (dH.tr _) (dH.J _) D I h
theorem Zg (mv is:List Nat) (h:fQ P l Q aR mv 99999 is a w.drew) (hm:P.follows .mixedOrders=true:=by kernel_rfl)
  (D:(Region.noSelect l.toArray && vM .any l.toArray 99999 && Az .any l.toArray mv 99999 is (Array.replicate l.toArray.size false) && (is.length==l.toArray.size))=true:=by kernel_rfl) (I:∀c a (d:Tmp) v w,Q (.panic c) (Act.put a (some d) v) w->Q (.panic c) a w:=by exact fun _ _ _ _ _ h=>h):(Code.region id l.toArray true).wp P Q a w:=
 bx 99999 mv is hm aR.tr aR.J D I h
end
theorem Yt {G G':Prop} (h:G') (t:Hid G'→G:=by intro hZ;(repeat ((first|refine Zs ?_|refine Zt ?_);(try simp only [Zu])));exact hZ.h):G:=t h
theorem Yo {K G:Act→World→Prop} {R:World→World→Prop} {w u:World} {a:Act} {g:Prop} (hK:Hid (∀a' w',R w w'→G a' w'→K a' w')) (r:R w u) (h:g) (t:Hid g→G a u:=by intro hZ;(try simp only [Zu]);exact hZ.h):K a u:=hK.h a u r (t h)
theorem Yl {K G:Act→World→Prop} {u:World} {a:Act} {g:Prop} (hK:Hid (∀a' w',G a' w'→K a' w')) (h:g) (t:Hid g→G a u:=by intro hZ;(try simp only [Zu]);exact hZ.h):K a u:=hK.h a u (t h)
theorem Ym {P:Program} {Q:Exit→Act→World→Prop} {l:List Oper} {R:World→World→Prop} {mv is:List Nat} {z i:Nat} {o:Oper} {a:Act} {w:World} {G:(Act→World→Prop)→Prop} (h:∀K:Act→World→Prop,Hid (∀a' w',R w w'→fQ P l Q R mv z is a' w'→K a' w')→G K) (hm:mv.contains i=true:=by rfl) (ho:lR l i=some o:=by rfl)
 (hw:Region.wanted o (yielded l.toArray a.tmps)=true:=by rfl) (t:∀K:Act→World→Prop,Hid (G K)→Oper.wp P o a w K Q:=by intro K hZ;go_simp;exact hZ.h):fQ P l Q R mv z (i::is) a w:=Eg hm ho hw fun K hK=>t K (h K hK)
section
variable {P:Program} {Q:Exit→Act→World→Prop}
def vG:List Bool→Nat→List Bool
 |[],_=>[]
 |_::l,0=>true::l
 |b::l,n+1=>b::vG l n
theorem uU:∀(l:List Bool) (n:Nat),(vG l n).toArray=l.toArray.setIfInBounds n true
 |[],n=>by simp[vG]
 |b::l,0=>by simp[vG]
 |b::l,n+1=>by have:=uU l n;simp_all[vG]
def F4 (md:Region.Mode) (ops:Array Oper) (listed:Array Bool):Bool:=
 (List.range ops.size).all fun k=>match ops[k]? with
  |some o=> !listed.getD k false||o.after.all fun e=> !Region.binds md e||listed.getD e.on false
  |none=>true
theorem xm {md:Region.Mode} (h:F4 md ops listed=true):oH md ops listed:=by
 intro k o J O e he hb;have D:=(aU.1 J).1;have I:=fN.1 h k (iT.2 D);rw[J] at I;simp only[O,TE,Bool.false_or] at I;have h2:=Array.all_eq_true'.1 I e he;simpa[hb] using h2
def lS (P:Program) (l:List Oper) (Q:Exit→Act→World→Prop) (S:World→Prop) (fuel:Nat) (bs:List Bool) (a:Act) (w:World):Prop:=
 tG P .any l.toArray Q 99999 S fuel bs.toArray a w
def jw (P:Program) (l:List Oper) (S:World→Prop) (fin:Act→World→Prop):List Nat→Act→World→Prop
 |[],a,w=>fin a w
 |i::is,a,w=> ∃v o,l.toArray[i]?=some o∧YieldsIf P l.toArray S o v a∧jw P l S fin is (a.put o.dst v) w
def AA (l:List Oper):List Nat→List Bool→Bool
 |[],_=>true
 |i::is,bs=>F4 .any l.toArray bs.toArray && Region.free .any l.toArray bs.toArray i && (Region.ready .any l.toArray bs.toArray).contains i && AA l is (vG bs i)
def ze:List Bool→List Nat→List Bool
 |bs,[]=>bs
 |bs,i::is=>ze (vG bs i) is
theorem Kp (is:List Nat) (hQ:∀c a (d:Tmp) v w,Q (.panic c) (Act.put a (some d) v) w->Q (.panic c) a w) (hs:Region.noSelect l.toArray=true) (ht:vM .any l.toArray 99999=true):
  ∀(fuel:Nat) (bs:List Bool) (a:Act) (w:World),AA l is bs=true->S w->jw P l S (lS P l Q S fuel (ze bs is)) is a w->lS P l Q S (is.length+fuel) bs a w:=by
 induction is with
 |nil=>intro fuel bs a w _ _ h;simpa[jw,ze] using h
 |cons i is ih=>
  intro fuel bs a w hB hS h;simp only[AA,dv] at hB;obtain⟨⟨⟨h1,h2⟩,h3⟩,h4⟩:=hB;obtain⟨v,o,ho,hy,h⟩:=h;rw[bI,Nat.add_right_comm];refine Ef ho hs ht (fun c a w D=>by cases hd:o.dst<;>rw[hd] at D<;>first|exact hQ _ _ _ _ _ D|exact D) _ _ _ _ (fun j oj hj I J O=>J9 ho h2 j oj hj I J O) (xm h1) (by simpa using h3) hy hS ?_;rw[<-uU];exact ih fuel (vG bs i) _ w h4 hS h
theorem QS (is:List Nat) (fuel:Nat) (I:∀c a (d:Tmp) v w,Q (.panic c) (Act.put a (some d) v) w->Q (.panic c) a w)
  (D:(Region.noSelect l.toArray && vM .any l.toArray 99999 && AA l is bs && (is.length+fuel==n))=true) (hS:S w) (h:jw P l S (lS P l Q S fuel (ze bs is)) is a w):lS P l Q S n bs a w:=by
 simp only[dv,beq_iff_eq] at D;obtain⟨⟨⟨J,O⟩,h3⟩,rfl⟩:=D;exact Kp is I J O fuel bs a w h3 hS h
theorem Kq (D:lR l i=some o) (hw:Region.wanted o (yielded l.toArray a.tmps)=true)
  (I:∀w',S w'->(execOp a.eval o).run P w'= .ok (.value v) w') (h:jw P l S fin is (a.put o.dst v) w):jw P l S fin (i::is) a w:=
 ⟨v,o,(mj l i).trans D, .inl ⟨hw,I⟩,h⟩
theorem Kr (D:lR l i=some o) (hw:Region.wanted o (yielded l.toArray a.tmps)=false)
  (h:jw P l S fin is (a.put o.dst undef) w):jw P l S fin (i::is) a w:=
 ⟨undef,o,(mj l i).trans D, .inr ⟨hw,rfl⟩,h⟩
def qw (P:Program) (l:List Oper) (Q:Exit→Act→World→Prop) (R:World→World→Prop) (fuel:Nat) (bs:List Bool):List Nat→Act→World→Prop
 |[],_,_=>True
 |i::is,a,w=>wpOp P l.toArray Q i (fun a' w'=>R w w'∧lS P l Q (R w') fuel (vG bs i) a' w') a w∧qw P l Q R fuel bs is a w
theorem Ks (ms:List Nat) (hR:∀a b c,R a b->R b c->R a c) (fuel:Nat) (hm:(Region.ready .any l.toArray bs.toArray==ms && !ms.isEmpty)=true)
  (h:qw P l Q R fuel bs ms a w):lS P l Q (R w) (fuel+1) bs a w:=by
 simp only[dv,beq_iff_eq,vC,QK] at hm;obtain⟨hr,D⟩:=hm;refine⟨fun J=>absurd (hr.symm.trans J) D,?_⟩;rw[hr];clear hr D
 induction ms with
 |nil=>intro i hi;cases hi
 |cons m ms O=>
  intro i hi;rcases a9.1 hi with rfl|hi
  ·refine wpOp_mono (fun a' w' I=>⟨fun _=>I.1,?_⟩) h.1
   have:=yp (S:=R w) (fun u hu=>hR _ _ _ I.1 hu) _ _ _ _ I.2
   rwa [uU] at this
  ·exact O h.2 i hi
theorem Of (J:lR l i=some o) (hw:Region.wanted o (yielded l.toArray a.tmps)=true)
  (h:∀K:Act->World->Prop,Hid (∀a' w',R w w'->lS P l Q (R w') fuel (vG bs i) a' w'->K a' w')->Oper.wp P o a w K Q) (D:qw P l Q R fuel bs is a w):qw P l Q R fuel bs (i::is) a w:=by
 have I:=(mj l i).trans J;refine⟨?_,D⟩;unfold wpOp;simp only[I,hw,if_true];exact .inl (h _ fun a' w' hr hg=>⟨hr,hg⟩)
theorem aQ:qw P l Q R fuel bs [] a w:=trivial
theorem Og (hr:(Region.ready .any l.toArray bs.toArray).isEmpty=true) (h:Q .normal a w):lS P l Q S 0 bs a w:=
 ⟨by simpa[J8] using hr,h⟩
theorem AB (n:Nat) (hm:P.follows .mixedOrders=true) (hn:(l.length==n)=true)
  (h:lS P l Q (R w.drew) n (List.replicate n false) a w.drew):(Code.region id l.toArray true).wp P Q a w:=by
 obtain rfl:l.length=n:=by simpa using hn
 refine wp_region_any hm (Ay (z:=99999) (S:=R w.drew) _ _ _ _ ?_);simpa[lS] using h
theorem Zd (h:fin a w):jw P l S fin [] a w:=h
theorem Zk (h:jw P l S fin is (a.put o.dst v) w) (D:lR l i=some o:=by rfl) (hw:Region.wanted o (yielded l.toArray a.tmps)=true:=by rfl)
  (I:∀w',S w'->(execOp a.eval o).run P w'= .ok (.value v) w':=by intro w' J;go_simp;(try(with_reducible rfl));done):jw P l S fin (i::is) a w:=Kq D hw I h
theorem Zx (h:jw P l S fin is (a.put o.dst undef) w) (D:lR l i=some o:=by rfl) (hw:Region.wanted o (yielded l.toArray a.tmps)=false:=by rfl):jw P l S fin (i::is) a w:=Kr D hw h
theorem Zo 
  (h:∀K:Act->World->Prop,Hid (∀a' w',R w w'->lS P l Q (R w') fuel (vG bs i) a' w'->K a' w')->Oper.wp P o a w K Q) (D:qw P l Q R fuel bs is a w) (I:lR l i=some o:=by rfl) (hw:Region.wanted o (yielded l.toArray a.tmps)=true:=by rfl):qw P l Q R fuel bs (i::is) a w:=Of I hw h D
theorem Ze (h:Q .normal a w) (hr:(Region.ready .any l.toArray bs.toArray).isEmpty=true:=by kernel_rfl):lS P l Q S 0 bs a w:=Og hr h
theorem Zf (ms:List Nat) (fuel:Nat) (h:qw P l Q (Below B) fuel bs ms a w) (hm:(Region.ready .any l.toArray bs.toArray==ms && !ms.isEmpty)=true:=by kernel_rfl):lS P l Q (Below B w) (fuel+1) bs a w:=Ks ms (dH.tr _) fuel hm h
theorem Zr (is:List Nat) (fuel:Nat) (h:jw P l (Below B w) (lS P l Q (Below B w) fuel (ze bs is)) is a w) (D:∀c a (d:Tmp) v w,Q (.panic c) (Act.put a (some d) v) w->Q (.panic c) a w:=by exact fun _ _ _ _ _ h=>h)
  (I:(Region.noSelect l.toArray && vM .any l.toArray 99999 && AA l is bs && (is.length+fuel==n))=true:=by kernel_rfl):lS P l Q (Below B w) n bs a w:=QS is fuel D I (dH.J _ _) h
theorem Zy (B n:Nat) (h:lS P l Q (Below B w.drew) n (List.replicate n false) a w.drew) (hm:P.follows .mixedOrders=true:=by kernel_rfl) (hn:(l.length==n)=true:=by kernel_rfl):(Code.region id l.toArray true).wp P Q a w:=AB (R:=Below B) n hm hn h
end
theorem Yr {G G':Prop} (h:G') (t:Hid G'→G:=by intro hZ;(repeat ((first|refine Zx ?_|refine Zk ?_);(try simp only [Zu])));refine Zd ?_;exact hZ.h):G:=t h
section
variable {P:Program} {Q:Exit→Act→World→Prop}
def wW (P:Program) (ops:Array Oper) (Q:Exit→Act→World→Prop) (Z:List Nat) (S:World→Prop):Nat→Array Bool→Act→World→Prop
 |0,listed,a,w=>Region.ready .any ops listed=[]∧Q .normal a w
 |fuel+1,listed,a,w=>
  (Region.ready .any ops listed=[]→Q .normal a w)∧
  ∀i∈Region.ready .any ops listed,wpOp P ops Q i (fun a' w'=>(i∉Z→S w')∧wW P ops Q Z S fuel (listed.setIfInBounds i true) a' w') a w
theorem Fu (h:∀u,S' u->S u):∀(fuel:Nat) (listed:Array Bool) (a:Act) (w:World),wW P ops Q Z S' fuel listed a w->wW P ops Q Z S fuel listed a w
 |0,_,_,_,D=>D
 |fuel+1,_,_,_,D=>⟨D.1,fun i hi=>wpOp_mono (fun a' w' I=>⟨fun J=>h _ (I.1 J),Fu h fuel _ a' w' I.2⟩) (D.2 i hi)⟩
theorem Jz:∀(fuel:Nat) (listed:Array Bool) (a:Act) (w:World),wW P ops Q Z S fuel listed a w->wpAny P .any ops Q fuel listed a w
 |0,_,_,_,h=>h
 |fuel+1,_,_,_,h=>⟨h.1,fun i hi=>wpOp_mono (fun a' w' D=>Jz fuel _ a' w' D.2) (h.2 i hi)⟩
def XT (ops:Array Oper) (listed:Array Bool) (Z:List Nat) (i:Nat):Bool:=Z.all fun z=>listed.getD z false||reaches .any ops i 20 z
theorem PQ (hi:ops[i]?=some oi) (a0:Region.noSelect ops=true)
  (hQ:∀c a w,Q (.panic c) (a.put oi.dst v) w->Q (.panic c) a w):
  ∀(fuel:Nat) (listed:Array Bool) (a:Act) (w:World),
   (∀z∈Z,listed.getD z false=true\/reaches .any ops i 20 z=true)->
   (∀j oj,ops[j]?=some oj->j≠i->listed.getD j true=false->(∀e∈oj.after,Region.binds .any e=true->e.on≠i)->oi.apart ops oj=true)->
   oH .any ops listed->i∈Region.ready .any ops listed->YieldsIf P ops S oi v a->S w->
   wW P ops Q Z S fuel (listed.setIfInBounds i true) (a.put oi.dst v) w->wW P ops Q Z S (fuel+1) listed a w:=by
 intro fuel
 induction fuel with
 |zero=>
  intro listed a w _ _ a5 hr hy hS H;refine⟨fun h=>(by rw[h] at hr;cases hr),fun j hj=>?_⟩
  by_cases D:j=i
  ·subst D;exact hy.wpOp hi hS ⟨fun _=>hS,H⟩
  ·have:=ready_mono hj D
   rw[H.1] at this
   cases this
 |succ fuel ih=>
  intro listed a w ht J a5 hr hy hS H;refine⟨fun h=>(by rw[h] at hr;cases hr),fun j hj=>?_⟩
  by_cases D:j=i
  ·subst D;exact hy.wpOp hi hS ⟨fun _=>hS,H⟩
  ·have h1:=H.2 j (ready_mono hj D)
   obtain⟨I,oj,O,a2⟩:=mem_ready.1 hj;have bh:=(aU.1 O).1;have bp:=(aU.1 hi).1;have ax:=(mem_ready.1 hr).1;have a6:j∉Z:=fun hz=>by
    rcases ht j hz with h2|h2
    ·rcases pq j listed.size with h'|h'
     ·simp[h'] at h2 I;rw[I] at h2;cases h2
     ·simp[lN h'] at h2
    ·rcases sj a5 20 j h2 (fun o' a7 e he hb=>by rw[O] at a7;obtain rfl:=bW a7;exact a2 e he hb) with h3|h3
     ·exact D h3.symm
     ·rcases pq i listed.size with h'|h'
      ·simp[h'] at h3 ax;rw[ax] at h3;cases h3
      ·simp[lN h'] at h3
   have a8:∀e∈oj.after,Region.binds .any e=true->e.on≠i:=fun e he hb heq=>by
    have h1:=a2 e he hb;have h0:=(mem_ready.1 hr).1;rw[heq] at h1;rcases pq i listed.size with h'|h'
    ·simp[h'] at h0 h1;rw[h0] at h1;cases h1
    ·simp[lN h'] at h1
   have h2:=wpOp_putIf O (J j oj O D I a8) (fun cs b=>qV a0 i oi cs b hi) (fun cs b=>qV a0 j oj cs b O) hQ hy h1;have ay:∀k ok,ops[k]?=some ok->k≠i->(listed.setIfInBounds j true).getD k true=false->
     (∀e∈ok.after,Region.binds .any e=true->e.on≠i)->oi.apart ops ok=true:=fun k ok hk bb ax bc=>by
    refine J k ok hk bb ?_ bc
    by_cases ba:j=k
    ·subst ba;exact I
    ·rw[getD_set_ne true ba] at ax;exact ax
   have bf:∀z∈Z,(listed.setIfInBounds j true).getD z false=true\/reaches .any ops i 20 z=true:=fun z hz=>by
    rcases ht z hz with h|h
    ·exact .inl (getD_set_true h)
    ·exact .inr h
   refine wpOp_mono (fun a' w' h3=>⟨fun _=>h3.2.1 a6,ih (listed.setIfInBounds j true) a' w' bf ay (a5.set hj) (ready_mono hr (Ne.symm D)) h3.1 (h3.2.1 a6) ?_⟩) h2;rw[TF _ _ D];exact h3.2.2
def mC (P:Program) (l:List Oper) (Q:Exit→Act→World→Prop) (Z:List Nat) (S:World→Prop) (fuel:Nat) (bs:List Bool) (a:Act) (w:World):Prop:=
 wW P l.toArray Q Z S fuel bs.toArray a w
def GH (l:List Oper) (Z:List Nat):List Nat→List Bool→Bool
 |[],_=>true
 |i::is,bs=>F4 .any l.toArray bs.toArray && Region.free .any l.toArray bs.toArray i && (Region.ready .any l.toArray bs.toArray).contains i && XT l.toArray bs.toArray Z i && GH l Z is (vG bs i)
theorem JA (is:List Nat) (hQ:∀c a (d:Tmp) v w,Q (.panic c) (Act.put a (some d) v) w->Q (.panic c) a w) (hs:Region.noSelect l.toArray=true):
  ∀(fuel:Nat) (bs:List Bool) (a:Act) (w:World),GH l Z is bs=true->S w->jw P l S (mC P l Q Z S fuel (ze bs is)) is a w->mC P l Q Z S (is.length+fuel) bs a w:=by
 induction is with
 |nil=>intro fuel bs a w _ _ h;simpa[jw,ze] using h
 |cons i is ih=>
  intro fuel bs a w hB hS h;simp only[GH,dv] at hB;obtain⟨⟨⟨⟨h1,h2⟩,h3⟩,h5⟩,h4⟩:=hB;obtain⟨v,o,ho,hy,h⟩:=h;rw[bI,Nat.add_right_comm];refine PQ ho hs (fun c a w D=>by cases hd:o.dst<;>rw[hd] at D<;>first|exact hQ _ _ _ _ _ D|exact D) _ _ _ _ (fun z hz=>by simpa[MU] using fN.1 h5 z hz) (fun j oj hj I J O=>J9 ho h2 j oj hj I J O) (xm h1) (by simpa using h3) hy hS ?_;rw[<-uU];exact ih fuel (vG bs i) _ w h4 hS h
theorem kF (is:List Nat) (fuel:Nat) (I:∀c a (d:Tmp) v w,Q (.panic c) (Act.put a (some d) v) w->Q (.panic c) a w)
  (D:(Region.noSelect l.toArray && GH l Z is bs && (is.length+fuel==n))=true) (hS:S w) (h:jw P l S (mC P l Q Z S fuel (ze bs is)) is a w):mC P l Q Z S n bs a w:=by
 simp only[dv,beq_iff_eq] at D;obtain⟨⟨J,O⟩,rfl⟩:=D;exact JA is I J fuel bs a w O hS h
def uL (P:Program) (l:List Oper) (Q:Exit→Act→World→Prop) (R:World→World→Prop) (Z:List Nat) (fuel:Nat) (bs:List Bool):List Nat→Act→World→Prop
 |[],_,_=>True
 |i::is,a,w=>wpOp P l.toArray Q i (fun a' w'=>R w w'∧mC P l Q Z (R w') fuel (vG bs i) a' w') a w∧uL P l Q R Z fuel bs is a w
theorem dt (ms:List Nat) (hR:∀a b c,R a b->R b c->R a c) (fuel:Nat) (hm:(Region.ready .any l.toArray bs.toArray==ms && !ms.isEmpty)=true)
  (h:uL P l Q R Z fuel bs ms a w):mC P l Q Z (R w) (fuel+1) bs a w:=by
 simp only[dv,beq_iff_eq,vC,QK] at hm;obtain⟨hr,D⟩:=hm;refine⟨fun J=>absurd (hr.symm.trans J) D,?_⟩;rw[hr];clear hr D
 induction ms with
 |nil=>intro i hi;cases hi
 |cons m ms O=>
  intro i hi;rcases a9.1 hi with rfl|hi
  ·refine wpOp_mono (fun a' w' I=>⟨fun _=>I.1,?_⟩) h.1
   have:=Fu (S:=R w) (fun u hu=>hR _ _ _ I.1 hu) _ _ _ _ I.2
   rwa [uU] at this
  ·exact O h.2 i hi
theorem dh (J:lR l i=some o) (hw:Region.wanted o (yielded l.toArray a.tmps)=true)
  (h:∀K:Act->World->Prop,Hid (∀a' w',R w w'->mC P l Q Z (R w') fuel (vG bs i) a' w'->K a' w')->Oper.wp P o a w K Q) (D:uL P l Q R Z fuel bs is a w):uL P l Q R Z fuel bs (i::is) a w:=by
 have I:=(mj l i).trans J;refine⟨?_,D⟩;unfold wpOp;simp only[I,hw,if_true];exact .inl (h _ fun a' w' hr hg=>⟨hr,hg⟩)
theorem dJ:uL P l Q R Z fuel bs [] a w:=trivial
theorem dz (i:Nat) (fuel:Nat) (hm:(Region.ready .any l.toArray bs.toArray==[i] && Z.contains i)=true) (J:lR l i=some o) (hw:Region.wanted o (yielded l.toArray a.tmps)=true)
  (h:∀K:Act->World->Prop,Hid (∀a' w',mC P l Q Z S fuel (vG bs i) a' w'->K a' w')->Oper.wp P o a w K Q):mC P l Q Z S (fuel+1) bs a w:=by
 simp only[dv,beq_iff_eq,List.contains_iff_mem] at hm;obtain⟨hr,O⟩:=hm;refine⟨fun I=>(by rw[hr] at I;cases I),?_⟩;rw[hr];intro j hj;obtain rfl:j=i:=by simpa using hj
 have D:=(mj l j).trans J;unfold wpOp;simp only[D,hw,if_true];refine .inl (h _ fun a' w' hg=>⟨fun hn=>absurd O hn,?_⟩);rw[<-uU];exact hg
theorem mK (hr:(Region.ready .any l.toArray bs.toArray).isEmpty=true) (h:Q .normal a w):mC P l Q Z S 0 bs a w:=
 ⟨by simpa[J8] using hr,h⟩
theorem oM (n:Nat) (Z:List Nat) (hm:P.follows .mixedOrders=true) (hn:(l.length==n)=true)
  (h:mC P l Q Z (R w.drew) n (List.replicate n false) a w.drew):(Code.region id l.toArray true).wp P Q a w:=by
 obtain rfl:l.length=n:=by simpa using hn
 refine wp_region_any hm (Jz (Z:=Z) (S:=R w.drew) _ _ _ _ ?_);simpa[mC] using h
end
end Go.Proofs.YtbaaheidifacaaaGreat
