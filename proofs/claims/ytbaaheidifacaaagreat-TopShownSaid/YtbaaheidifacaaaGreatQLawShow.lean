import Derived.Test.YtbaaheidifacaaaGreatQTopPC1
set_option linter.defProp false
set_option linter.unusedVariables false
set_option linter.unusedSimpArgs false
set_option maxRecDepth 100000
set_option maxHeartbeats 12800000
namespace Go.Proofs.YtbaaheidifacaaaGreat
variable {B c lim aw:Int} {M:BM} {P:PD} {S:Sm} {k x:Nat} {l:List Qt} {less:Bool} {q:Qt} {tp tp':kJ}
open Go.RowKit
theorem abh (D:k<2) (lim p:Int):lp (1 - k) lim p= !bz k lim p:=by
 unfold lp bz;have:k=0\/k=1:=ae;rcases this with rfl|rfl
 ·simp only[if_true,Nat.sub_zero,yn,if_false]
  rw[<-decide_not]
  congr 1
  exact propext ae
 ·simp only[Vn,if_true,yn,if_false]
  rw[<-decide_not]
  congr 1
  exact propext ae
theorem ZV (k:Nat) (x:Int):bz k x x=false:=by
 unfold bz
 split<;>simp
theorem abQ {x y z:Int} (D:bz k x y=true) (I:bz k y z=true):bz k x z=true:=by
 unfold bz at*
 split at D<;>simp_all<;>omega
theorem ZW {x y z:Int} (D:bz k x y=false) (I:bz k y z=false):bz k x z=false:=by
 unfold bz at*
 split at D<;>simp_all<;>omega
theorem Z9 {x y:Int} (h:bz k x y=true):bz k y x=false:=by
 unfold bz at*
 split at h<;>simp_all<;>omega
theorem abt {b:Qt} (h:nF k l=some b):∀q∈l,bz k q.ag b.ag=false:=by
 have key:∀(l:List Qt) (b:Qt),bz k b.ag (l.foldl (fun b q=>if bz k q.ag b.ag=true then q else b) b).ag=false/\∀q∈l,bz k q.ag (l.foldl (fun b q=>if bz k q.ag b.ag=true then q else b) b).ag=false:=by
  intro l
  induction l with
  |nil=>intro b;exact⟨ZV k _,fun q hq=>by simp at hq⟩
  |cons a l O=>
   intro b;rw[MW]
   by_cases I:bz k a.ag b.ag=true
   ·rw[if_pos I]
    obtain⟨D,J⟩:=O a;refine⟨ZW (Z9 I) D,fun q hq=>?_⟩;rcases a9.1 hq with rfl|hq
    ·exact D
    ·exact J q hq
   ·rw[if_neg I]
    obtain⟨D,J⟩:=O b;refine⟨D,fun q hq=>?_⟩;rcases a9.1 hq with rfl|hq
    ·exact ZW (by simpa using I) D
    ·exact J q hq
 cases l with
 |nil=>cases h
 |cons a l=>
  unfold nF at h;injection h with h;rw[<-h];exact(key (a::l) a).2
theorem abu (h:q∈l):∃b,nF k l=some b:=by
 cases l with
 |nil=>simp at h
 |cons a l=>exact⟨_,rfl⟩
theorem abR {p q:Int} (h:lU S x k=some (p,q)):∃D q' im,jZ P S x k=some (D,q',im)/\bz k p D=false:=by
 unfold jZ;rw[h]
 cases J:nF k (iq P (lU S) x k) with
 |none=>exact⟨_,_,_,rfl,ZV k p⟩
 |some b=>
  simp only
  split
  ·rename_i I;exact⟨_,_,_,rfl,Z9 I⟩
  ·exact⟨_,_,_,rfl,ZV k p⟩
theorem abi (h:q∈iq P (lU S) x k):∃I q' im,jZ P S x k=some (I,q',im)/\bz k q.ag I=false:=by
 obtain⟨b,J⟩:=abu (k:=k) h;have D:=abt J q h;unfold jZ;rw[J]
 cases lU S x k with
 |none=>exact⟨_,_,_,rfl,D⟩
 |some r=>
  simp only
  split
  ·exact⟨_,_,_,rfl,D⟩
  ·rename_i O;exact⟨_,_,_,rfl,ZW D (by simpa using O)⟩
theorem abF (x k:Nat) (I:k<2) (lim:Int) (Su:Sm->Int->Prop)
  (step:∀(S:Sm) (left:Int),pn P S->1<=left->Su S left->∃p q im,jZ P S x k=some (p,q,im)/\bz k lim p=false/\(left - min left q<=0\/Su (dA P S x k im (min left q)).1 (left - min left q))):
  ∀(f:Nat) (S:Sm) (left:Int),pn P S->0<=left->left.toNat<=f->(left<=0\/Su S left)->(dV P f S x (1 - k) lim left).2.2=0
 |0,S,left,hF,J,hf,_=>by show left=0;omega
 |f+1,S,left,hF,J,hf,hs=>by
  by_cases D:left<=0
  ·rw[sQ D];show left=0;omega
  ·have hs:=hs.resolve_left D
   obtain⟨p,q,im,hn,hg,hc⟩:=step S left hF ae hs;have hq:=hF.sb.next hn
   have e:1 - (1 - k)=k:=ae;unfold dV;rw[if_neg D,e,hn];simp only;rw[if_pos (by rw[abh I,hg];rfl)];exact abF x k I lim Su step f _ _ (hF.less (iy.nT P S x k im _)) ae ae hc
theorem aaV (hF:pn P S) (D:k<2) (Su:Sm->Int->Prop)
  (step:∀(S:Sm) (left:Int),pn P S->1<=left->Su S left->∃p q im,jZ P S x k=some (p,q,im)/\bz k lim p=false/\(left - min left q<=0\/Su (dA P S x k im (min left q)).1 (left - min left q)))
  (I:0<=aw) (hs:Su S aw):ng P S x (1 - k) lim aw=aw:=by
 unfold ng;rw[abF x k D lim Su step aw.toNat S aw hF I (af _) (.inr hs)];omega
def aai (k:Nat) (lim:Int) (l:List iQ):Int:=mq (gY (l.filter fun r=> !bz k lim r.1))
theorem abj {id q:Int} (J:0<=q):∀{l:List dn},(l.map (·.id)).Nodup->(∀e∈l,1<=e.aw)->mq l - q<=mq (l.filterMap (fS id q))
 |[],_,_=>by simp[mq];omega
 |e::l,hn,hq=>by
  rw[aW,yk] at hn;rw[dr]
  by_cases hi:e.id=id
  ·have D:l.filterMap (fS id q)=l:=zI fun a ha=>by
    unfold fS;rw[if_neg];intro e';exact hn.1 (aV.2 ⟨a,ha,e'.trans hi.symm⟩)
   unfold fS;rw[if_pos hi]
   by_cases I:e.aw<=q
   ·rw[if_pos I]
    simp only;have:(l.filterMap fun e=>if e.id=id then if e.aw<=q then none else some {e with aw:=e.aw - q} else some e)=l:=D;rw[this];simp only[mq,aW,cN];omega
   ·rw[if_neg I]
    simp only;have:(l.filterMap fun e=>if e.id=id then if e.aw<=q then none else some {e with aw:=e.aw - q} else some e)=l:=D;rw[this];simp only[mq,aW,cN];omega
  ·have O:=abj (id:=id) J hn.2 fun a ha=>hq a (by simp[ha])
   have:fS id q e=some e:=by unfold fS;rw[if_neg hi]
   rw[this];simp only[mq,aW,cN] at O⊢;omega
theorem aal (id q:Int) (g:Int->Bool):∀l:List iQ,(kZ id q l).filter (fun r=>g r.1)=kZ id q (l.filter fun r=>g r.1)
 |[]=>rfl
 |r::l=>by
  have D:=aal id q g l;unfold kZ at D⊢;rw[aW,gN,gN]
  by_cases hg:g r.1=true
  ·rw[if_pos hg,aW,gN]
   split
   ·rw[gN,D]
    rw[if_pos (show g (yy id q r).1=true from hg)]
   ·exact D
  ·rw[if_neg hg]
   split
   ·rw[gN,if_neg (show ¬g (yy id q r).1=true from hg)]
    exact D
   ·exact D
theorem ach {id q:Int} (J:0<=q) {l:List iQ} (hn:((gY l).map (·.id)).Nodup) (hq:∀e∈gY l,1<=e.aw):aai k lim l - q<=aai k lim (kZ id q l):=by
 unfold aai;rw[aal id q (fun p=> !bz k lim p),Fe];have D:∀(g:iQ->Bool) (l:List iQ),(gY (l.filter g)).Sublist (gY l):=fun g l=>by
  unfold gY
  induction l with
  |nil=>exact List.Sublist.refl _
  |cons r l I=>
   rw[gN]
   split
   ·rw[bj,bj];exact List.Sublist.append_left I _
   ·rw[bj];exact I.trans (QL _ _)
 have hs:=D (fun r=> !bz k lim r.1) l;exact abj J (List.Pairwise.sublist (hs.map _) hn) fun e he=>hq e (hs.subset he)
theorem aa5 (h:EE M) (k:Nat):((gY (M.side k)).map (·.id)).Nodup/\∀e∈gY (M.side k),1<=e.aw:=by
 have hn:=h.nd;unfold BM.I at hn;rw[cx,dw] at hn;unfold BM.side
 split
 ·exact⟨hn.1,fun e he=>(h.ok e (by unfold BM.I;exact aJ.2 (.inl he))).1⟩
 ·exact⟨hn.2.1,fun e he=>(h.ok e (by unfold BM.I;exact aJ.2 (.inr he))).1⟩
theorem aaW {k:Nat} {lim:Int}:∀(es:List dn) (cs:List Int) (M:BM),EE M->(∀c∈cs,0<=c)->aai k lim (M.side k) - cs.sum<=aai k lim ((ja M es cs).side k)
 |e::es,c::cs,M,h,hc=>by
  have D:=hc c bT;unfold ja;rw[cN];have J:EE (if 0<c then M.cut e.id c else M)/\aai k lim (M.side k) - c<=aai k lim ((if 0<c then M.cut e.id c else M).side k):=by
   split
   ·refine⟨(DS.cut M e.id c D).ok h,?_⟩
    rw[rE];exact ach D (aa5 h k).1 (aa5 h k).2
   ·exact⟨h,ae⟩
  have I:=aaW es cs _ J.1 (fun d hd=>hc d (by simp[hd])) (k:=k) (lim:=lim);omega
 |[],cs,M,h,hc=>by
  have hs:0<=cs.sum:=by
   clear h
   induction cs with
   |nil=>simp
   |cons c cs I=>rw[cN];have:=hc c bT;have:=I fun d hd=>hc d (by simp[hd]);omega
  cases cs<;>(unfold ja;omega)
 |e::es,[],M,h,hc=>by unfold ja;simp
theorem abS (hF:pn P S) (D:S[x]?=some M) {p a t:Int} (ht:lU S x k=some (p,a)) (h1:0<=t) (h2:t<=a) (lim:Int):∃M',(bM P S x k t).1[x]?=some M'/\aai k lim (M.side k) - t<=aai k lim (M'.side k):=by
 obtain⟨M0,r,l,a1,a2,a3,a4⟩:=oE ht;rw[D] at a1;injection a1 with a1;subst a1;have hr:r∈M.side k:=by rw[a2];simp
 have I:=hF.xX x M D;have s1:=yL hF.right I hr h1 ae;have s2:=LQ hF.right I hr h1 ae;have J:=(az.1 D).1;refine⟨ja M r.2 (mA P k r t),?_,?_⟩
 ·unfold bM
  rw[D];simp only[a2];rw[aD J]
 ·have:=aaW (k:=k) (lim:=lim) r.2 (mA P k r t) M I fun c hc=>by
   obtain⟨i,hi,rfl⟩:=kv.1 hc;have O:i<r.2.length:=s1.1▸hi;obtain⟨c,b1,b2,_⟩:=s1.2 i _ (aj O);rw[aj hi] at b1;injection b1 with b1;rw[b1];exact b2
  omega
theorem aaX (hF:pn P S) (hx:x<P.count) (I:k<2) (hq:q∈mG P.n (lU S) x k):x≠q.i0/\x≠q.i1:=by
 obtain⟨J,O,ax,p0,q0,p1,q1,t0,t1,ay,D⟩:=hF.right.quote hx I hq;rcases D with⟨a,b,c,d,_,_,_⟩|⟨a,b,c,_,_,_⟩|⟨a,b,c,_,_,_⟩
 ·have:=hF.right.spread c d;omega
 ·have:=hF.right.spread c a;omega
 ·have:=hF.right.RG a hx;omega
theorem aaC {t:Int} {y:Nat} (D:y≠q.i0) (I:y≠q.i1):(dA P S x k (some q) t).1[y]?=S[y]?:=by
 unfold dA;simp only;rw[yN I,yN D]
theorem abv (hF:pn P S) (hx:x<P.count) (hk:k<2) (h0:0<=aw) (h:∃M,S[x]?=some M/\aw<=aai k lim (M.side k)):ng P S x (1 - k) lim aw=aw:=by
 refine aaV hF hk (fun S left=> ∃M,S[x]?=some M/\left<=aai k lim (M.side k)) (fun S left hF h1 hs=>?_) h0 h;obtain⟨M,O,hle⟩:=hs;have hb:=hF.xX x M O;have D:(M.side k).Pairwise (fun a b=>bz k a.1 b.1=true):=by
  have:k=0\/k=1:=ae;rcases this with rfl|rfl
  ·exact hb.oU
  ·exact hb.oV
 cases hs:M.side k with
 |nil=>
  rw[hs] at hle;simp[aai,gY,mq] at hle;omega
 |cons r l=>
  have ax:lU S x k=some (r.1,mq r.2):=by unfold lU;rw[O];simp only[yG,hs]
  have I:bz k lim r.1=false:=by
   cases hg:bz k lim r.1 with
   |false=>rfl
   |true=>
    exfalso;have J:(M.side k).filter (fun r=> !bz k lim r.1)=[]:=by
     rw[List.filter_eq_nil_iff];intro a ha;rw[hs] at ha D;rcases a9.1 ha with rfl|ha
     ·rw[hg];simp
     ·rw[abQ hg ((tz.1 D).1 a ha)];simp
    unfold aai at hle;rw[J] at hle;simp[gY,mq] at hle;omega
  obtain⟨p,q,im,hn,hp⟩:=abR (P:=P) ax;refine⟨p,q,im,hn,ZW I hp, .inr ?_⟩;have ay:=hF.sb.next hn
  cases im with
  |none=>
   have e:=Qa hn;obtain⟨M',b1,b2⟩:=abS hF O e (t:=min left q) ae ae lim;exact⟨M',b1,ae⟩
  |some y=>
   obtain⟨y1,_⟩:=NQ hk hn y rfl;obtain⟨c0,c1⟩:=aaX hF hx hk y1;exact⟨M,by rw[aaC c0 c1];exact O,ae⟩
theorem aaD {a D b kb:Nat} (h:xe tp a D b kb less=some q) (I:tp' q.i0 q.k0=tp q.i0 q.k0) (J:tp' q.i1 q.k1=tp q.i1 q.k1):xe tp' a D b kb less=some q:=by
 obtain⟨rfl,rfl,rfl,rfl,_⟩:=uG h;unfold xe at h⊢;rw[I,J];exact h
theorem abT {n:Nat} (h:q∈mG n tp x k) (D:tp' q.i0 q.k0=tp q.i0 q.k0) (I:tp' q.i1 q.k1=tp q.i1 q.k1):q∈mG n tp' x k:=by
 unfold mG at h⊢
 split at h
 ·rename_i hx
  rw[if_pos hx];rcases aJ.1 h with h|h
  ·obtain⟨j,J,hq⟩:=ee.1 h
   exact aJ.2 (.inl (ee.2 ⟨j,J,aaD hq D I⟩))
  ·obtain⟨j,J,hq⟩:=ee.1 h
   exact aJ.2 (.inr (ee.2 ⟨j,J,aaD hq D I⟩))
 ·rename_i hx
  rw[if_neg hx]
  cases hm:xe tp (cy n x).2 (1 - k) (cy n x).1 k true with
  |none=>rw[hm] at h;simp at h
  |some q'=>
   rw[hm] at h;simp at h;subst h;have:xe tp' (cy n x).2 (1 - k) (cy n x).1 k true=some q':=aaD hm I D;rw[this];simp
theorem abw (hP:P.gZ) (hx:x<P.count) (hk:k<2) {y:Qt} (hq:q∈mG P.n tp x k) (hy:y∈mG P.n tp x k):
  (q.aw=y.aw)\/(q.i0≠y.i0/\q.i0≠y.i1/\q.i1≠y.i0/\q.i1≠y.i1):=by
 obtain⟨_,_,_,p0,q0,p1,q1,t0,t1,a4,hc⟩:=hP.quote hx hk hq;obtain⟨_,_,_,a7,a8,ba,bb,a5,a6,a3,ay⟩:=hP.quote hx hk hy;have same:q.i0=y.i0->q.i1=y.i1->q.k0=y.k0->q.k1=y.k1->q.aw=y.aw:=fun e0 e1 f0 f1=>by
  rw[e0,f0,a5] at t0;rw[e1,f1,a6] at t1;injection t0 with t0;injection t0 with _ t0;injection t1 with t1;injection t1 with _ t1;rw[a4,a3,t0,t1]
 rcases hc with⟨a,b,c,d,k0,k1,_⟩|⟨a,b,c,k0,k1,_⟩|⟨a,b,c,k0,k1,_⟩
 ·obtain⟨s1,s2,J⟩:=hP.spread c d
  rcases ay with⟨a',I,c',d',O,ax,_⟩|⟨a',I,c',O,ax,_⟩|⟨a',_⟩
  ·obtain⟨a0,a2,D⟩:=hP.spread c' d'
   by_cases he:q.i1=y.i1
   ·exact .inl (same (by rw[b,I,he]) he ae ae)
   ·refine .inr ⟨fun e=>?_,ae,ae,he⟩
    rw[<-b] at J;rw[<-I,<-e] at D;rw[J] at D;injection D with _ D;exact he D
  ·obtain⟨a0,a2,D⟩:=hP.spread c' a'
   refine .inr ⟨fun e=>?_,ae,ae,ae⟩;rw[<-b] at J;rw[<-I,<-e] at D;rw[J] at D;injection D with D _;omega
  ·omega
 ·obtain⟨s1,s2,J⟩:=hP.spread c a
  rcases ay with⟨a',I,c',d',O,ax,_⟩|⟨a',I,c',O,ax,_⟩|⟨a',_⟩
  ·obtain⟨a0,a2,D⟩:=hP.spread c' d'
   refine .inr ⟨fun e=>?_,ae,ae,ae⟩;rw[<-b] at J;rw[<-I,<-e] at D;rw[J] at D;injection D with D _;omega
  ·obtain⟨a0,a2,D⟩:=hP.spread c' a'
   by_cases he:q.i1=y.i1
   ·exact .inl (same (by rw[b,I,he]) he ae ae)
   ·refine .inr ⟨fun e=>?_,ae,ae,he⟩
    rw[<-b] at J;rw[<-I,<-e] at D;rw[J] at D;injection D with D _;exact he D
  ·omega
 ·rcases ay with⟨a',_⟩|⟨a',_⟩|⟨a',I,c',O,ax,_⟩
  ·omega
  ·omega
  ·exact .inl (same (by rw[b,I]) (by rw[c,c']) ae ae)
theorem abk (hF:pn P S) (hx:x<P.count) (I:k<2) (hq:q∈iq P (lU S) x k):ng P S x (1 - k) q.ag q.aw=q.aw:=by
 have D:=qF hq;have O:1<=q.aw:=SV (fun x k p q=>hF.sb.tp) D.1;refine aaV hF I (fun S left=>q∈iq P (lU S) x k/\left<=q.aw) (fun S left hF h1 hs=>?_) ae ⟨hq,ae⟩;obtain⟨hq,hle⟩:=hs;have D:=qF hq;obtain⟨p,a,im,hn,hp⟩:=abi hq;refine⟨p,a,im,hn,hp,?_⟩;obtain⟨o0,o1⟩:=aaX hF hx I D.1;have keep:∀S',(∀i j,i=q.i0\/i=q.i1->lU S' i j=lU S i j)->q∈iq P (lU S') x k:=fun S' h=>by
  unfold iq;refine lX.2 ⟨abT D.1 (h _ _ (.inl rfl)) (h _ _ (.inr rfl)),?_⟩;rw[D.2];rfl
 have ha:=hF.sb.next hn
 cases im with
 |none=>
  refine .inr ⟨keep _ fun i j hi=>?_,ae⟩;have J:i≠x:=by rcases hi with rfl|rfl<;>omega
  exact UY J
 |some y=>
  obtain⟨y1,_,_,_,y5,y6⟩:=NQ I hn y rfl;rcases abw hF.right hx I D.1 y1 with he|⟨n0,n1,n2,n3⟩
  ·exact .inl ae
  ·refine .inr ⟨keep _ fun i j hi=>?_,ae⟩
   unfold lU;have:(dA P S x k (some y) (min left a)).1[i]?=S[i]?:=aaC (by rcases hi with rfl|rfl<;>assumption) (by rcases hi with rfl|rfl<;>assumption);rw[this]
theorem abl (b:Qt):∀(l:List Qt) (a:Int),(∃q∈l,q.ag=b.ag/\q.aw=l.foldl (fun a q=>if q.ag=b.ag then max a q.aw else a) a)\/l.foldl (fun a q=>if q.ag=b.ag then max a q.aw else a) a=a
 |[],a=> .inr rfl
 |q::l,a=>by
  rw[MW];rcases abl b l (if q.ag=b.ag then max a q.aw else a) with⟨y,D,I,J⟩|h
  ·exact .inl ⟨y,by simp[D],I,J⟩
  ·rw[h]
   split
   ·rename_i hp
    by_cases hm:a<=q.aw
    ·exact .inl ⟨q,bT,hp,ae⟩
    ·exact .inr ae
   ·exact .inr rfl
theorem aam (h:(pY k l).2=true):∃q∈l,q.ag=(pY k l).1.ag/\q.aw=(pY k l).1.aw:=by
 unfold pY at h⊢
 cases I:nF k l with
 |none=>rw[I] at h;cases h
 |some b=>
  simp only;rcases abl b l b.aw with D|D
  ·exact D
  ·exact⟨b,vt I,rfl,D.symm⟩
theorem aa6 (hF:pn P S) (hx:x<P.count) (D:k<2) (h:(kK P S x k).has=true):ng P S x (1 - k) (kK P S x k).im.ag (kK P S x k).im.aw=(kK P S x k).im.aw:=by
 obtain⟨q,I,J,O⟩:=aam h;show ng P S x (1 - k) (pY k _).1.ag (pY k _).1.aw=(pY k _).1.aw;rw[<-J,<-O];exact abk hF hx D I
theorem abm (hF:pn P S) (hx:x<P.count) (hk:k<2) {j:Nat} {y:mE} (D:(kK P S x k).lv[j]?=some y):
  ng P S x (1 - k) y.ag (((kK P S x k).lv.take (j+1)).map (·.aw)).sum=(((kK P S x k).lv.take (j+1)).map (·.aw)).sum:=by
 have a3:x<S.length:=by rw[hF.sn];exact hx
 obtain⟨M,hM⟩:∃M,S[x]?=some M:=⟨_,aj a3⟩;have hb:=hF.xX x M hM;have a4:(kK P S x k).lv=(M.side k).map vH:=by unfold kK;rw[hM]
 rw[a4] at D⊢;rw[bo] at D;obtain⟨r,hr,rfl⟩:∃r,(M.side k)[j]?=some r/\y=vH r:=by
  cases hr:(M.side k)[j]? with
  |none=>rw[hr] at D;cases D
  |some r=>rw[hr] at D;injection D with D;exact⟨r,rfl,D.symm⟩
 have J:(M.side k).Pairwise (fun a b=>bz k a.1 b.1=true):=by
  have:k=0\/k=1:=ae;rcases this with rfl|rfl
  ·exact hb.oU
  ·exact hb.oV
 have ax:=aa5 hb k;have ay:∀l:List iQ,((l.map vH).map (·.aw)).sum=mq (gY l):=fun l=>by
  induction l with
  |nil=>rfl
  |cons a l ih=>
   simp only[aW,cN,ih];unfold gY;rw[bj];unfold mq;rw[cx,MR];rfl
 have I:∀l:List dn,(∀e∈l,1<=e.aw)->0<=mq l:=fun l=>by
  induction l with
  |nil=>intro _;simp[mq]
  |cons a l ih=>
   intro h;have h1:=h a bT;have h2:=ih fun e he=>h e (by simp[he]);simp only[mq,aW,cN] at h2⊢;omega
 have a5:=(az.1 hr).1;have O:∀a∈(M.side k).take (j+1),bz k r.1 a.1=false:=fun a ha=>by
  obtain⟨i,hi,e⟩:=kv.1 ha;rw[List.getElem_take] at e;have a7:i<j+1:=by rw[bJ] at hi;omega
  have a0:=(az.1 hr).2
  by_cases a6:i<j
  ·have:=nz.1 J i j ae a5 a6
   rw[e,a0] at this;exact Z9 this
  ·have:i=j:=ae
   subst this;rw[a0] at e;rw[<-e];exact ZV k _
 rw[List.map_take.symm,ay];refine abv hF hx hk (I _ fun e he=>?_) ⟨M,hM,?_⟩
 ·obtain⟨a,h1,h2⟩:=dD.1 he
  exact ax.2 e (dD.2 ⟨a,mT h1,h2⟩)
 ·show mq _<=mq (gY ((M.side k).filter fun a=> !bz k r.1 a.1))
  have e:M.side k=(M.side k).take (j+1)++(M.side k).drop (j+1):=(iG _ _).symm;have hf:((M.side k).filter fun a=> !bz k r.1 a.1)=(M.side k).take (j+1)++((M.side k).drop (j+1)).filter fun a=> !bz k r.1 a.1:=by
   conv=>lhs;rw[e]
   rw[Ea]
   congr 1
   rw[List.filter_eq_self];intro a ha;rw[O a ha];rfl
  rw[hf];have a2:∀a b:List iQ,mq (gY (a++b))=mq (gY a)+mq (gY b):=fun a b=>by
   unfold gY mq;rw[rR,cx,MR]
  rw[a2];have:=I (gY (((M.side k).drop (j+1)).filter fun a=> !bz k r.1 a.1)) fun e he=>by
   obtain⟨a,h1,h2⟩:=dD.1 he;exact ax.2 e (dD.2 ⟨a,List.mem_of_mem_drop (lX.1 h1).1,h2⟩)
  omega
theorem aa7 (hc:0<=c):∀{L:List dn},(∀e∈L,1<=e.aw/\e.aw<=c)->0<=mq L/\mq L<=c*L.length
 |[],_=>by simp[mq]
 |e::L,h=>by
  have D:=h e bT;have I:=aa7 hc (L:=L) fun x hx=>h x (by simp[hx]);have e1:mq (e::L)=e.aw+mq L:=by simp[mq]
  rw[e1,bI,Int.natCast_succ,zN,Int.mul_one];omega
theorem aci (hc:0<=c):∀{l:List iQ} (j:Nat),(∀e∈gY l,1<=e.aw/\e.aw<=c)->0<=(((l.map vH).take j).map (·.aw)).sum/\(((l.map vH).take j).map (·.aw)).sum<=c*(gY l).length
 |[],j,_=>by simp[gY]
 |r::l,0,h=>by
  have:0<=c*((gY (r::l)).length:Int):=jG hc ae;simpa using this
 |r::l,j+1,h=>by
  have D:=aa7 hc (L:=r.2) fun e he=>h e (by unfold gY;simp[he]);have I:=aci hc (l:=l) j fun e he=>h e (by unfold gY at he⊢;simp only[bj,aJ];exact .inr he);have e1:(gY (r::l)).length=r.2.length+(gY l).length:=by unfold gY;simp
  have e2:((((r::l).map vH).take (j+1)).map (·.aw)).sum=mq r.2+(((l.map vH).take j).map (·.aw)).sum:=by simp[vH]
  rw[e1,e2,MS,zN];omega
theorem aaE:∀{l:List Nat} {n:Nat},n∈l->n<=l.sum
 |a::l,n,h=>by
  rw[cN];rcases a9.1 h with rfl|h
  ·omega
  ·have:=aaE h;omega
theorem aaF (h:S[x]?=some M) (k:Nat):(gY (M.side k)).length<=cK S:=by
 have D:(gY (M.side k)).length<=M.I.length:=by
  unfold BM.I BM.side;rw[aC]
  split<;>omega
 have J:M.I.length<=cK S:=by
  unfold cK;have:=aH h;exact aaE (List.mem_map_of_mem (f:=fun M:BM=>M.I.length) this)
 omega
theorem acN (hc:0<=c) (h:SB c S) {p q:Int} (D:lU S x k=some (p,q)):q<=c*cK S:=by
 unfold lU at D
 cases I:S[x]? with
 |none=>rw[I] at D;cases D
 |some M=>
  rw[I] at D;simp only[yG] at D
  cases hs:M.side k with
  |nil=>rw[hs] at D;cases D
  |cons r l=>
   rw[hs] at D;simp only[gf,Prod.mk.injEq] at D;obtain⟨_,rfl⟩:=D;have hr:r∈M.side k:=by rw[hs];simp
   have J:=aa7 hc (L:=r.2) (h.at_ I hr).2;have O:r.2.length<=(gY (M.side k)).length:=by rw[hs];unfold gY;simp
   have h3:=aaF I k;have h4:c*(r.2.length:Int)<=c*(cK S:Int):=gh ae hc;omega
theorem abx (D:∀x k p q,tp x k=some (p,q)->q<=B) {a I b kb:Nat} (h:xe tp a I b kb less=some q):q.aw<=B:=by
 unfold xe at h
 split at h
 ·rename_i x y J O
  injection h with h;subst h;have:=D _ _ _ _ J;show min x.2 y.2<=B;omega
 ·cases h
theorem acu (D:∀x k p q,tp x k=some (p,q)->q<=B) {n:Nat} (h:q∈mG n tp x k):q.aw<=B:=by
 unfold mG at h
 split at h
 ·rcases aJ.1 h with h|h
  ·obtain⟨j,_,I⟩:=ee.1 h;exact abx D I
  ·obtain⟨j,_,I⟩:=ee.1 h;exact abx D I
 ·cases hm:xe tp (cy n x).2 (1 - k) (cy n x).1 k true with
  |none=>rw[hm] at h;simp at h
  |some q'=>
   rw[hm] at h;simp at h;rw[h];have:=abx D hm;exact this
theorem acM (hc:0<=c) (h:SB c S) (hs:(kK P S x k).has=true):1<=(kK P S x k).im.aw/\(kK P S x k).im.aw<=c*cK S:=by
 obtain⟨q,D,J,I⟩:=aam hs;have hq:=(qF D).1;have e:(kK P S x k).im.aw=q.aw:=I.symm;rw[e];exact⟨SV (fun x k p q=>h.tp) hq,acu (fun x k p q=>acN hc h) hq⟩
end Go.Proofs.YtbaaheidifacaaaGreat
