import Derived.Test.YtbaaheidifacaaaGreatQ27
import Derived.Test.YtbaaheidifacaaaGreatQ32
set_option linter.defProp false
set_option linter.unusedVariables false
set_option linter.unusedSimpArgs false
set_option maxRecDepth 100000
set_option maxHeartbeats 12800000
namespace Go.Proofs.YtbaaheidifacaaaGreat
variable {A:Option Addr} {G R:Nat→Prop} {M M':BM} {P P':PD} {S S':Sm} {a c id p ag q aw t time y:Int} {b i j n s x:Nat} {bs:List Nat} {e e':dn} {f g:dn→Option dn} {f':Int→Option Value} {fl:List fG} {im:Option Qt} {l:List iQ} {ky:List UInt8} {r:iQ} {st:jz} {tp':kJ} {w w':World}
open Go.RowKit
@[ext] structure ir where
  kind:Int
  id:Int
  inst:Int
  side:Int
  ag:Int
  aw:Int
  left:Int
  fy:Int
structure Mk where
 S:Sm
 used:Int→Bool
 un:Nat
variable {m:Mk}
def Mk.new (P:PD):Mk:=⟨List.replicate P.count ⟨[],[]⟩,fun _=>false,0⟩
def cK (S:Sm):Nat:=(S.map fun M=>M.I.length).sum
def np (l:List iQ) (id:Int):Option (Int×dn):=l.findSome? fun r=>(r.2.find? fun e=>e.id==id).map fun e=>(r.1,e)
def uy (M:BM) (id:Int):Option (Nat×Int×dn):=match np M.s0 id with|some r=>some (0,r)|none=>(np M.s1 id).map fun r=>(1,r)
def sX (S:Sm) (id:Int):Option (Nat×Nat×Int×dn):=(List.range S.length).findSome? fun x=>(S[x]?.bind fun M=>uy M id).map fun r=>(x,r)
def cutAt (S:Sm) (x:Nat) (id q:Int):Sm:=match S[x]? with|some M=>S.set x (M.cut id q)|none=>S
def oW (S:Sm) (x k:Nat) (id p q:Int):Sm:=match S[x]? with|some M=>S.set x (M.add k id p q)|none=>S
def mH (id fy:Int):List ir:=[⟨2,id,0,0,0,0,0,fy⟩]
def lu (P:PD) (x:Nat) (ag:Int):Int×Int:=
 let far:=P.settle.getD (cy P.n x).2 0
 let a:=if P.high<far+ag then (P.high,P.high - ag) else (far+ag,far)
 if a.1<P.low then (P.low,P.low - ag) else a
def jq (fl:List fG) (ag:Int) (month:Nat):Int:=match fl.find? fun f=>f.inst==month with|some f=>f.ag|none=>ag
def fg (P:PD) (x:Nat) (st:jz):Int×Int:=
 if st.imp=true then (jq st.U st.ag (cy P.n x).1,jq st.U st.ag (cy P.n x).2) else lu P x st.ag
def nW (P:PD) (r:ir) (near far:Int):List ir:=
 [{r with inst:=((cy P.n r.inst.toNat).1:Int),ag:=near},{r with inst:=((cy P.n r.inst.toNat).2:Int),side:=3 - r.side,ag:=far}]
def lz (P:PD) (st:jz) (r:ir):List ir:=
 if r.inst.toNat<P.n then [r] else r::nW P r (fg P r.inst.toNat st).1 (fg P r.inst.toNat st).2
def oC (f:fG):ir:=⟨3,f.id,f.inst,(f.k:Int)+1,f.ag,f.aw,f.left,0⟩
def nH (P:PD) (id:Int) (x k:Nat) (st:jz) (left:Int):List ir:=
 st.U.flatMap (fun f=>lz P st (oC f))++lz P st ⟨3,id,x,(k:Int)+1,st.ag,st.aw,left,0⟩
def kj (P:PD) (id:Int) (x k:Nat):List jz→Int→List ir
 |[],_=>[]
 |st::l,left=>nH P id x k st (left - st.aw)++kj P id x k l (left - st.aw)
def iE (P:PD) (m:Mk) (id:Int) (x k:Nat) (ag aw time:Int):Mk×List ir:=
 let u:Int→Bool:=fun y=>if y=id then true else m.used y
 let n:=if m.used id=true then m.un else m.un+1
 let r:=dV P aw.toNat m.S x k ag aw
 let oq:=⟨1,id,x,(k:Int)+1,ag,aw,aw,0⟩::kj P id x k r.2.1 aw
 if r.2.2=0 then (⟨r.1,u,n⟩,oq)
 else if time=1 then (⟨oW r.1 x k id ag r.2.2,u,n⟩,oq)
 else (⟨r.1,u,n⟩,oq++[⟨4,id,x,(k:Int)+1,ag,r.2.2,0,0⟩])
def lW (P:PD) (m:Mk) (c:bN):Mk×List ir:=
 let k:=(c.side - 1).toNat
 let x:=c.inst.toNat
 let least:=if c.time=3 then c.aw else c.least
 if P.oY c.inst c.ag≠0 then (m,mH c.id (P.oY c.inst c.ag))
 else if m.used c.id=true then (m,mH c.id 25)
 else if 250≤cK m.S then (m,mH c.id 13)
 else if 0<least∧ng P m.S x k c.ag c.aw<least then (m,mH c.id 28)
 else if c.time=1∧lV P m.S x k c.ag c.aw=true then (m,mH c.id 23)
 else iE P m c.id x k c.ag c.aw c.time
def dG (m:Mk) (id:Int) (x k:Nat) (p:Int) (e:dn):Mk×List ir:=({m with S:=cutAt m.S x id e.aw},[⟨4,id,x,(k:Int)+1,p,e.aw,0,0⟩])
def jh (m:Mk) (id aw:Int) (x k:Nat) (p:Int) (e:dn):Mk×List ir:=({m with S:=cutAt m.S x id aw},[⟨5,id,x,(k:Int)+1,p,aw,e.aw - aw,0⟩])
def replaceM (P:PD) (m:Mk) (c:bN) (x k:Nat) (p:Int) (e:dn):Mk×List ir:=
 if P.fy x c.ag≠0 then (m,mH c.id (P.fy x c.ag))
 else if c.ag=p∧c.aw≤e.aw then jh m c.id (e.aw - c.aw) x k p e
 else if lV P (cutAt m.S x c.id e.aw) x k c.ag c.aw=true then (m,mH c.id 23)
 else
  let r:=iE P (dG m c.id x k p e).1 c.id x k c.ag c.aw 1
  (r.1,(dG m c.id x k p e).2++r.2)
def pC (P:PD) (m:Mk) (c:bN):Mk×List ir:=
 if dx c≠0 then (m,mH c.id (dx c:Nat))
 else if c.kind=1 then lW P m c
 else match sX m.S c.id with
  |none=>(m,mH c.id 26)
  |some (x,k,p,e)=>
   if c.kind=4 then replaceM P m c x k p e
   else if c.kind=2∨e.aw≤c.aw then dG m c.id x k p e
   else jh m c.id c.aw x k p e
def zn (n t wi ru top le pa:Int):PD:=
 ⟨[206,169],(List.range n.toNat).map (fun i:Nat=>10*(i:Int)+3),t, -20*t,100*t,t*(5+wi),ru,top,le,pa,(List.range n.toNat).map (fun i:Nat=>t*(10+(i:Int)))⟩
def Gr (mn ti wi ru top le pa:Int):PD:=zn (2+within mn 0 3) (1+within ti 0 9) (within wi 0 60) (1+within ru 0 2) (within top 0 9) (1+within le 0 4) (within pa 0 100)
def gV (ru:Int):PD:=⟨[67,76],[320,321,323],5,0,1000,200,ru,4,2,40,[500,505,490]⟩
theorem Jj {n wi ru top le pa:Int} (hn:2<=n/\n<=5) (I:1<=t/\t<=10) (hw:0<=wi/\wi<=60) (hr:1<=ru/\ru<=3) (hp:0<=top/\top<=9) (J:1<=le/\le<=5) (ha:0<=pa/\pa<=100):(zn n t wi ru top le pa).gZ:=by
 have O:5*t<=t*(5+wi):=by rw[lM 5 t];exact gh ae ae
 have ax:t*(5+wi)<=65*t:=by rw[lM 65 t];exact gh ae ae
 have hlen:(zn n t wi ru top le pa).E.length=n.toNat:=by simp[zn]
 have D:(zn n t wi ru top le pa).settle.length=n.toNat:=by simp[zn]
 refine⟨.inl rfl,by rw[hlen];omega,by rw[hlen];omega,fun m hm=>?_,?_,by exact I.1,by show t<=1000;omega,?_,?_,?_,fun x hx=>?_,by rw[hlen,D],?_,?_,?_,?_,?_,hr.1,hr.2,hp.1,?_,J.1,?_,ha.1,ha.2⟩
 ·obtain⟨i,hi,rfl⟩:=aV.1 hm
  have:=iT.1 hi;omega
 ·show((List.range n.toNat).map fun i:Nat=>10*(i:Int)+3).Pairwise (· < ·)
  rw[vF];exact List.pairwise_lt_range.imp (fun h=>ae)
 ·exact⟨-20,by show -20*t=t* -20;omega⟩
 ·exact⟨100,by show 100*t=t*100;omega⟩
 ·exact⟨5+wi,rfl⟩
 ·obtain⟨i,hi,rfl⟩:=aV.1 hx
  have hi:=iT.1 hi;have e1:10*t<=t*(10+(i:Int)):=by rw[lM 10 t];exact gh ae ae
  have e2:t*(10+(i:Int))<=15*t:=by rw[lM 15 t];exact gh ae ae
  exact⟨⟨_,rfl⟩,by show -20*t<=_;omega,by show _<=100*t;omega⟩
 ·show -1000000<= -20*t;omega
 ·show -20*t<100*t;omega
 ·show 100*t<=1000000;omega
 ·show 0<=t*(5+wi);omega
 ·show t*(5+wi)<=100*t - -20*t;omega
 ·show top<=1000000;omega
 ·show le<=1000;omega
theorem Gt (mn ti wi ru top le pa:Int):(Gr mn ti wi ru top le pa).gZ:=by
 have D:=cW mn 0 3 ae;have I:=cW ti 0 9 ae;have J:=cW wi 0 60 ae;have O:=cW ru 0 2 ae;have h5:=cW top 0 9 ae;have h6:=cW le 0 4 ae;have h7:=cW pa 0 100 ae;exact Jj ae ae ae ae ae ae ae
theorem Gu {ru:Int} (h:1<=ru/\ru<=3):(gV ru).gZ:=by
 refine⟨.inr rfl,by simp[gV],by simp[gV],by simp[gV],by simp[gV],by simp[gV],by simp[gV],by simp[gV],by simp[gV],by simp[gV],?_,rfl,by simp[gV],by simp[gV],by simp[gV],by simp[gV],by simp[gV],h.1,h.2,by simp[gV],by simp[gV],by simp[gV],by simp[gV],by simp[gV],by simp[gV]⟩;intro x hx;simp[gV] at hx;rcases hx with rfl|rfl|rfl<;>simp[gV]
def rB (P:PD) (c:bN) (i:Nat):bN:=
 let kd:=1+within c.kind 0 8
 let aw:=1+within c.aw 0 11
 let pr:=P.tick*within c.ag 0 9
 let x:=within c.inst 0 ((P.count:Int) - 1)
 if kd=1∨4<kd then
  ⟨1,(i:Int)+1,x,1+within c.side 0 1,if x<P.n then pr+8*P.tick else pr - 4*P.tick,aw,if c.least.tmod 4=1 then within c.least 0 aw else 0,if c.time.tmod 5=3 then 3 else if c.time.tmod 5=2 then 2 else 1,[]⟩
 else ⟨kd,1+within c.id 0 30,0,0,if kd=4 then pr+5*P.tick else pr,aw,0,0,[]⟩
def js (P:PD) (l:List bN) (n:Nat):List bN:=((l.take n).zipIdx).map fun x=>rB P x.1 x.2
def runM (P:PD):Mk→List bN→Mk×List ir
 |m,[]=>(m,[])
 |m,c::l=>((runM P (pC P m c).1 l).1,(pC P m c).2++(runM P (pC P m c).1 l).2)
theorem Ch (P:PD):∀(l:List bN) (m:Mk) (l':List bN),runM P m (l++l')=((runM P (runM P m l).1 l').1,(runM P m l).2++(runM P (runM P m l).1 l').2)
 |[],m,l'=>by simp[runM]
 |c::l,m,l'=>by
  have:=Ch P l (pC P m c).1 l';simp only[fO,runM,this,bD]
theorem Fe (id q:Int):∀l:List iQ,gY (kZ id q l)=(gY l).filterMap (fS id q)
 |[]=>rfl
 |r::l=>by
  have D:=Fe id q l;unfold gY kZ at D⊢;simp only[aW,bj,qh,gN]
  by_cases h:(yy id q r).2.isEmpty=true
  ·have I:List.filterMap (fS id q) r.2=[]:=by simpa[yy] using h
   simp only[h,TE,dm,if_false,I,List.nil_append];exact D
  ·have J:(yy id q r).2.isEmpty=false:=by simpa using h
   simp only[J,Bool.not_false,if_true,bj];rw[D];rfl
theorem iI (M:BM) (id q:Int):(M.cut id q).I=M.I.filterMap (fS id q):=by
 unfold BM.I BM.cut;simp only[Fe,qh]
theorem pT {l:List dn} (h:e∈l.filterMap (fS id q)):∃I∈l,I.id=e.id/\I.top=e.top/\(I.id≠id->e=I)/\(I.id=id->q<I.aw/\e={I with aw:=I.aw - q}):=by
 obtain⟨I,O,D⟩:=ee.1 h;refine⟨I,O,(ve D).1.symm,(ve D).2.symm,fun J=>?_,fun J=>?_⟩
 ·unfold fS at D
  rw[if_neg J] at D;injection D with D;exact D.symm
 ·unfold fS at D
  rw[if_pos J] at D
  split at D
  ·cases D
  ·injection D with D
   exact⟨ae,D.symm⟩
theorem R9 {l:List dn} (h:e∈l) (hq:e.id=id->q<e.aw):∃e'∈l.filterMap (fS id q),e'.id=e.id:=by
 by_cases D:e.id=id
 ·exact⟨{e with aw:=e.aw - q},ee.2 ⟨e,h,by unfold fS;rw[if_pos D,if_neg (cA (hq D))]⟩,rfl⟩
 ·exact⟨e,ee.2 ⟨e,h,by unfold fS;rw[if_neg D]⟩,rfl⟩
theorem uB:∀{l:List dn},(l.map (·.id)).Nodup->∀{a b:dn},a∈l->b∈l->a.id=b.id->a=b
 |[],_,a,b,h,_,_=>by cases h
 |x::l,hn,a,b,ha,D,he=>by
  rw[aW,yk] at hn;rcases a9.1 ha with rfl|ha
  ·rcases a9.1 D with rfl|D
   ·rfl
   ·exact absurd (aV.2 ⟨b,D,he.symm⟩) hn.1
  ·rcases a9.1 D with D|D
   ·rw[D] at he
    exact absurd (aV.2 ⟨a,ha,he⟩) hn.1
   ·exact uB hn.2 ha D he
theorem Ae:∀{l:List dn},(l.map (·.id)).Nodup->∀{e:dn} {id q:Int},e∈l->e.id=id->e.aw<=q->(l.filterMap (fS id q)).length+1=l.length
 |[],_,e,_,_,h,_,_=>by cases h
 |x::l,hn,e,id,q,he,D,hq=>by
  have I:=hn;rw[aW,yk] at I
  by_cases hx:x.id=id
  ·have:x=e:=uB hn bT he (hx.trans D.symm)
   subst this;have J:fS id q x=none:=by unfold fS;rw[if_pos hx,if_pos hq]
   rw[dr,J];simp only;rw[xG fun e O h2=>I.1 (aV.2 ⟨e,O,h2.trans hx.symm⟩)];simp
  ·have J:fS id q x=some x:=by unfold fS;rw[if_neg hx]
   rcases a9.1 he with rfl|he
   ·exact absurd D hx
   ·rw[dr,J]
    simp only[bI];rw[Ae I.2 he D hq]
theorem Jo:∀{l:List dn} {id q:Int},(∀e∈l,e.id=id->q<e.aw)->(l.filterMap (fS id q)).length=l.length
 |[],_,_,_=>rfl
 |x::l,id,q,h=>by
  have D:=h x bT;obtain⟨y,I⟩:∃y,fS id q x=some y:=by
   unfold fS
   by_cases hx:x.id=id
   ·rw[if_pos hx,if_neg (cA (D hx))];exact⟨_,rfl⟩
   ·rw[if_neg hx];exact⟨_,rfl⟩
  rw[dr,I];simp only[bI];rw[Jo fun e he=>h e (by simp[he])]
theorem yJ {l:List dn} (hn:(l.map (·.id)).Nodup) (he:e∈l) (I:e.id=id) (hq:e.aw<=q):∀x∈l.filterMap (fS id q),x.id≠id:=by
 intro x hx D;obtain⟨O,h1,J,_,_,h4⟩:=pT hx;have h5:=h4 (J.trans D);have:O=e:=uB hn h1 he (I▸J.trans D);subst this;omega
theorem Ly (h:1<=e.aw):fS id 0 e=some e:=by
 unfold fS
 by_cases hx:e.id=id
 ·rw[if_pos hx,if_neg ae];simp
 ·rw[if_neg hx]
theorem zI {l:List dn} (h:∀e∈l,f e=some e):l.filterMap f=l:=by
 induction l with
 |nil=>rfl
 |cons x l D=>rw[dr,h x bT];simp only;rw[D fun e he=>h e (by simp[he])]
theorem Ff (h:∀e∈gY l,1<=e.aw) (D:∀r∈l,r.2≠[]):kZ id 0 l=l:=by
 induction l with
 |nil=>rfl
 |cons r l O=>
  have h1:r.2.filterMap (fS id 0)=r.2:=zI fun e he=>Ly (h e (dD.2 ⟨r,bT,he⟩));have J:=O (fun e he=>h e (by obtain⟨x,hx,I⟩:=dD.1 he;exact dD.2 ⟨x,by simp[hx],I⟩)) fun x hx=>D x (by simp[hx]);unfold kZ at J⊢;rw[aW,gN];have h3:yy id 0 r=r:=by unfold yy;rw[h1]
  have h4:(!r.2.isEmpty)=true:=by
   have:=D r bT
   cases hr:r.2 with
   |nil=>exact absurd hr this
   |cons a b=>rfl
  rw[h3,if_pos h4,J]
theorem EE.Sa (h:EE M) (id:Int):M.cut id 0=M:=by
 unfold BM.cut;rw[Ff (fun e he=>(h.ok e (aJ.2 (.inl he))).1) h.XL,Ff (fun e he=>(h.ok e (aJ.2 (.inr he))).1) h.Ol]
theorem NC (h:r∈kZ id q l):∃D∈l,D.1=r.1:=by
 obtain⟨D,I,rfl⟩:=aV.1 (lX.1 h).1;exact⟨D,I,rfl⟩
theorem rE (M:BM) (id q:Int) (k:Nat):(M.cut id q).side k=kZ id q (M.side k):=by
 unfold BM.side BM.cut
 split<;>rfl
theorem yK (k:Nat) (p:Int) (e:dn):∀l:List iQ,(gY (mo k l p e)).Perm (e::gY l)
 |[]=>by simp[mo,gY]
 |r::l=>by
  have D:=yK k p e l;rw[mo]
  split
  ·unfold gY at D⊢
   rw[bj,bj];exact(D.append_left r.2).trans nw
  ·split
   ·unfold gY
    rw[bj,bj];simp only[bD,List.singleton_append];exact nw
   ·unfold gY
    rw[bj];exact List.Perm.refl _
theorem Pq (l:List iQ):gY (yx l)=(gY l).map Br:=by
 unfold gY yx
 induction l with
 |nil=>rfl
 |cons r l D=>simp only[aW,bj,cx];rw[D]
theorem qE (k:Nat) (l:List iQ) (id p q:Int):∃t f,(f=Br\/f=fun e=>e)/\(gY (jo k l id p q)).Perm (⟨id,q,t⟩::(gY l).map f):=by
 unfold jo
 by_cases h:Kd k l p=true
 ·refine⟨true,Br, .inl rfl,?_⟩
  rw[if_pos h,h];have:=yK k p ⟨id,q,true⟩ (yx l);rw[Pq] at this;exact this
 ·have D:Kd k l p=false:=by simpa using h
  refine⟨false,_, .inr rfl,?_⟩;rw[if_neg h,D,List.map_id'];exact yK k p ⟨id,q,false⟩ l
theorem Uv (M:BM) (k:Nat) (id p q:Int):(M.add k id p q).I.length=M.I.length+1:=by
 unfold BM.add BM.I
 by_cases D:k=0
 ·obtain⟨t,f,_,h⟩:=qE 0 M.s0 id p q
  have:=h.length_eq;rw[if_pos D];simp only[aC,bI,br] at this⊢;omega
 ·obtain⟨t,f,_,h⟩:=qE 1 M.s1 id p q
  have:=h.length_eq;rw[if_neg D];simp only[aC,bI,br] at this⊢;omega
theorem Co {k:Nat} (h:e∈(M.add k id p q).I):(e.id=id/\e.aw=q)\/∃D∈M.I,D.id=e.id/\D.aw=e.aw:=by
 have key:∀(O:Nat) (l:List iQ),e∈gY (jo O l id p q)->(e.id=id/\e.aw=q)\/∃D∈gY l,D.id=e.id/\D.aw=e.aw:=by
  intro O l hx;obtain⟨t,f,hf,hp⟩:=qE O l id p q;rcases a9.1 (hp.mem_iff.1 hx) with rfl|hx
  ·exact .inl ⟨rfl,rfl⟩
  ·obtain⟨D,J,rfl⟩:=aV.1 hx
   rcases hf with rfl|rfl
   ·exact .inr ⟨D,J,rfl,rfl⟩
   ·exact .inr ⟨D,J,rfl,rfl⟩
 unfold BM.add BM.I at h
 by_cases hk:k=0
 ·rw[if_pos hk] at h
  rcases aJ.1 h with h|h
  ·rcases key _ _ h with h|⟨D,J,h2⟩
   ·exact .inl h
   ·exact .inr ⟨D,aJ.2 (.inl J),h2⟩
  ·exact .inr ⟨e,aJ.2 (.inr h),rfl,rfl⟩
 ·rw[if_neg hk] at h
  rcases aJ.1 h with h|h
  ·exact .inr ⟨e,aJ.2 (.inl h),rfl,rfl⟩
  ·rcases key _ _ h with h|⟨D,J,h2⟩
   ·exact .inl h
   ·exact .inr ⟨D,aJ.2 (.inr J),h2⟩
theorem Sb (M:BM) (k:Nat) (id p q:Int):(∃e∈(M.add k id p q).I,e.id=id)/\∀J∈M.I,∃e∈(M.add k id p q).I,e.id=J.id:=by
 have key:∀(kk:Nat) (l:List iQ),(∃e∈gY (jo kk l id p q),e.id=id)/\∀J∈gY l,∃e∈gY (jo kk l id p q),e.id=J.id:=by
  intro kk l;obtain⟨t,f,hf,hp⟩:=qE kk l id p q;refine⟨⟨_,hp.mem_iff.2 (cg ..),rfl⟩,fun J D=>⟨f J,hp.mem_iff.2 (bB _ (aV.2 ⟨J,D,rfl⟩)),?_⟩⟩;rcases hf with rfl|rfl<;>rfl
 unfold BM.add BM.I
 by_cases hk:k=0
 ·rw[if_pos hk]
  refine⟨?_,fun J D=>?_⟩
  ·obtain⟨e,O,h2⟩:=(key 0 M.s0).1
   exact⟨e,aJ.2 (.inl O),h2⟩
  ·rcases aJ.1 D with D|D
   ·obtain⟨e,O,h2⟩:=(key 0 M.s0).2 J D
    exact⟨e,aJ.2 (.inl O),h2⟩
   ·exact⟨J,aJ.2 (.inr D),rfl⟩
 ·rw[if_neg hk]
  refine⟨?_,fun J D=>?_⟩
  ·obtain⟨e,O,h2⟩:=(key 1 M.s1).1
   exact⟨e,aJ.2 (.inr O),h2⟩
  ·rcases aJ.1 D with D|D
   ·exact⟨J,aJ.2 (.inl D),rfl⟩
   ·obtain⟨e,O,h2⟩:=(key 1 M.s1).2 J D
    exact⟨e,aJ.2 (.inr O),h2⟩
theorem ND {k:Nat}:∀{l:List iQ} {r:iQ},r∈mo k l p e->r.1=p\/∃D∈l,D.1=r.1
 |[],r,h=>by simp[mo] at h;subst h;exact .inl rfl
 |x::l,r,h=>by
  rw[mo] at h
  split at h
  ·rcases a9.1 h with rfl|h
   ·exact .inr ⟨r,bT,rfl⟩
   ·rcases ND h with h|⟨D,I,J⟩
    ·exact .inl h
    ·exact .inr ⟨D,by simp[I],J⟩
  ·split at h
   ·rename_i hp
    rcases a9.1 h with rfl|h
    ·exact .inl hp
    ·exact .inr ⟨r,by simp[h],rfl⟩
   ·rcases a9.1 h with rfl|h
    ·exact .inl rfl
    ·exact .inr ⟨r,h,rfl⟩
theorem Fg {k:Nat} (h:r∈jo k l id p q):r.1=p\/∃D∈l,D.1=r.1:=by
 unfold jo at h;rcases ND h with h|⟨D,I,J⟩
 ·exact .inl h
 ·split at I
  ·obtain⟨r1,O,rfl⟩:=aV.1 I
   exact .inr ⟨r1,O,J⟩
  ·exact .inr ⟨D,I,J⟩
theorem Sc {k k':Nat} (h:r∈(M.add k id p q).side k'):r.1=p\/∃J∈M.side k',J.1=r.1:=by
 unfold BM.add BM.side at h;unfold BM.side
 by_cases I:k=0<;>by_cases D:k'=0
 ·simp only[I,D,if_true,reduceIte] at h⊢;exact Fg h
 ·simp only[I,D,if_true,if_false,reduceIte] at h⊢;exact .inr ⟨r,h,rfl⟩
 ·simp only[I,D,if_true,if_false,reduceIte] at h⊢;exact .inr ⟨r,h,rfl⟩
 ·simp only[I,D,if_false,reduceIte] at h⊢;exact Fg h
theorem wP (h:np l id=some (p,e)):∃r∈l,r.1=p/\e∈r.2/\e.id=id:=by
 unfold np at h;obtain⟨r,hr,h⟩:=Hi h
 cases hf:r.2.find? fun e=>e.id==id with
 |none=>rw[hf] at h;cases h
 |some x=>
  rw[hf] at h;injection h with h;injection h with D I;subst I;exact⟨r,hr,D,uP hf,by simpa using MV hf⟩
theorem Cp (h:np l id=none):∀e∈gY l,e.id≠id:=by
 intro e he D;obtain⟨r,hr,he⟩:=dD.1 he;unfold np at h;have I:=QD.1 h r hr
 cases hf:r.2.find? fun e=>e.id==id with
 |none=>exact DZ.1 hf e he (by simpa using D)
 |some x=>rw[hf] at I;cases I
theorem Lz {k:Nat} (h:uy M id=some (k,p,e)):k<2/\∃r∈M.side k,r.1=p/\e∈r.2/\e.id=id:=by
 unfold uy at h
 cases I:np M.s0 id with
 |some x=>
  rw[I] at h;injection h with h;injection h with D J;subst D J;exact⟨ae,wP I⟩
 |none=>
  rw[I] at h
  cases D:np M.s1 id with
  |none=>rw[D] at h;cases h
  |some x=>
   rw[D] at h;injection h with h;injection h with J O;subst J O;exact⟨ae,wP D⟩
theorem LC (h:uy M id=none):∀e∈M.I,e.id≠id:=by
 unfold uy at h
 cases D:np M.s0 id with
 |some x=>rw[D] at h;cases h
 |none=>
  rw[D] at h
  cases J:np M.s1 id with
  |some x=>rw[J] at h;cases h
  |none=>
   intro e he;rcases aJ.1 he with he|he
   ·exact Cp D e he
   ·exact Cp J e he
theorem fX {k:Nat} (hr:r∈M.side k) (he:e∈r.2):e∈M.I:=by
 unfold BM.side at hr
 split at hr
 ·exact OX hr he
 ·exact OY hr he
theorem sJ {k:Nat} (h:sX S id=some (x,k,p,e)):∃M,S[x]?=some M/\k<2/\∃r∈M.side k,r.1=p/\e∈r.2/\e.id=id:=by
 unfold sX at h;obtain⟨y,D,h⟩:=Hi h
 cases hs:S[y]? with
 |none=>rw[hs] at h;cases h
 |some M=>
  rw[hs] at h
  cases hm:uy M id with
  |none=>simp[hm] at h
  |some r=>
   simp[hm] at h;obtain⟨rfl,rfl⟩:=h;exact⟨M,hs,Lz hm⟩
theorem LD (h:sX S id=none):∀(x:Nat) (M:BM),S[x]?=some M->∀e∈M.I,e.id≠id:=by
 intro x M hx;unfold sX at h;have D:=QD.1 h x (iT.2 (az.1 hx).1);rw[hx] at D;refine LC ?_
 cases hm:uy M id with
 |none=>rfl
 |some r=>simp[hm] at D
def zp (bs:List Nat):List Value:=bs.map fun b=> Pz b
structure NF where
 ma:Option Addr
 mc:Nat
 sa:Option Addr
 sc:Nat
 A:Option Addr
 c:Nat
 bs:List Nat
 Fs:Nat→Nat→Prop
 mb:Nat
 f:Int→Option Value
variable {C:NF}
def NF.cells (C:NF) (P:PD):Array Value:=#[.string (str P.code), .slice C.ma P.E.length C.mc,Iz P.tick,Iz P.low,Iz P.high,Iz P.wide,Iz P.rule,Iz P.top,Iz P.least,Iz P.part, .slice C.sa P.settle.length C.sc, .slice C.A C.bs.length C.c, .map (some C.mb)]
def NF.QH (C:NF) (s k:Nat):Prop:=k=s∨k=C.mb∨(Value.slice C.A C.bs.length C.c).ownBlock=some k
def NF.ro (C:NF) (k:Nat):Prop:=qP C.ma k∨qP C.sa k
structure qj (w:World) (s:Nat) (P:PD) (S:Sm) (C:NF):Prop where
 D:aE w s 132 (C.cells P)
 pd:iZ w P C.ma C.sa
 ob:w.ownsRow 0 133 1 (.slice C.A C.bs.length C.c) C.bs.length (zp C.bs)
 bn:C.bs.length=P.count
 sn:S.length=P.count
 bk:∀(x b:Nat) (M:BM),C.bs[x]?=some b→S[x]?=some M→cz w (C.Fs x) b M
 dj:∀x y k,C.Fs x k→C.Fs y k→x=y
 off:∀x k,C.Fs x k→¬C.QH s k∧¬C.ro k
 Yv:∀k,C.ro k→¬C.QH s k
 NG:∀x k,C.Fs x k→k<w.heap.size
 Ps:∀k,C.ro k→k<w.heap.size
 mp:fR w C.mb C.f (cK S)
 fw:∀(x:Nat) (M:BM) (e:dn),S[x]?=some M→e∈M.I→C.f e.id=some (Iz (x:Int))
 bw:∀(id:Int) (v:Value),C.f id=some v→∃(x:Nat) (M:BM) (e:dn),S[x]?=some M∧e∈M.I∧e.id=id∧v= Iz (x:Int)
 pr:∀(x k:Nat) (M:BM) (r:iQ),S[x]?=some M→r∈M.side k→P.fy x r.1=0
 cnt:cK S≤250
def dR (w:World) (G R:Nat→Prop) (s:Nat) (P:PD) (S:Sm):Prop:=
 ∃C,qj w s P S C∧(∀k,C.QH s k→G k)∧(∀x k,C.Fs x k→G k)∧∀k,C.ro k→R k
theorem qj.Pt (h:qj w s P S C):∀k,C.QH s k->k<w.heap.size:=by
 rintro k (rfl|rfl|I)
 ·exact h.D.lt
 ·exact h.mp.lt
 ·exact(h.ob.lt k I).2
theorem qj.same (h:qj w s P S C) (J:∀k,C.QH s k->w'.heap[k]?=w.heap[k]?) (hf:∀x k,C.Fs x k->w'.heap[k]?=w.heap[k]?) (hr:∀k,C.ro k->w'.heap[k]?=w.heap[k]?) (hs:w.heap.size<=w'.heap.size):qj w' s P S C:=
 ⟨h.D.block (J s (.inl rfl)),h.pd.same (fun k I _=>hr k I) hs,aX h.ob fun g hg=>J g (.inr (.inr hg)),h.bn,h.sn,fun x b M O h2=>(h.bk x b M O h2).same fun k _ I=>hf x k I,h.dj,h.off,h.Yv,
  fun x k I=>aA (h.NG x k I) hs,fun k I=>aA (h.Ps k I) hs,h.mp.block (J _ (.inr (.inl rfl))),h.fw,h.bw,h.pr,h.cnt⟩
theorem dR.same (h:dR w G R s P S) (J:∀k,k<w.heap.size->G k\/R k->w'.heap[k]?=w.heap[k]?) (hs:w.heap.size<=w'.heap.size):dR w' G R s P S:=by
 obtain⟨C,I,O,h3,h4⟩:=h;exact⟨C,I.same (fun k D=>J k (I.Pt k D) (.inl (O k D))) (fun x k D=>J k (I.NG x k D) (.inl (h3 x k D))) (fun k D=>J k (I.Ps k D) (.inr (h4 k D))) hs,O,h3,h4⟩
theorem dR.below (h:dR w G R s P S) (D:Bz w w'):dR w' G R s P S:=h.same (fun k I _=>D.block k I) D.size
theorem dR.lv {H:Nat->Prop} (h:dR w G R s P S) (D:Lv H w w') (I:∀k,G k\/R k->¬H k):dR w' G R s P S:=h.same (fun k J hg=>D.block k J (I k hg)) D.size
theorem dR.drew (h:dR w G R s P S):dR w.drew G R s P S:=h.same (fun _ _ _=>rfl) (af _)
theorem dR.mono {J R':Nat->Prop} (h:dR w G R s P S) (O:∀k,G k->k<w.heap.size->J k) (hR:∀k,R k->R' k):dR w J R' s P S:=by
 obtain⟨C,I,h2,h3,h4⟩:=h;exact⟨C,I,fun k D=>O k (h2 k D) (I.Pt k D),fun x k D=>O k (h3 x k D) (I.NG x k D),fun k D=>hR k (h4 k D)⟩
theorem dR.right (h:dR w G R s P S):P.gZ:=by
 obtain⟨C,D,_⟩:=h;exact D.pd.right
theorem dR.len (h:dR w G R s P S):S.length=P.count:=by
 obtain⟨C,D,_⟩:=h;exact D.sn
theorem qj.book (h:qj w s P S C) (hx:x<P.count):∃b M,C.bs[x]?=some b/\S[x]?=some M/\cz w (C.Fs x) b M:=by
 have D:x<C.bs.length:=by rw[h.bn];exact hx
 have I:x<S.length:=by rw[h.sn];exact hx
 have e1:=aj D;have e2:=aj I;exact⟨_,_,e1,e2,h.bk _ _ _ e1 e2⟩
theorem mB {c:Nat} (h:w.ownsRow 0 133 1 (.slice A bs.length c) bs.length (zp bs)) (hx:bs[x]?=some b):∃g,A=some ⟨g,0,none⟩/\w.cell? ⟨g,x,none⟩=some (Pz b):=by
 have D:x<bs.length:=(az.1 hx).1;obtain⟨g,hg,_,_⟩:=kz h ae;rw[hg] at h;exact⟨g,hg,dI h (by unfold zp;rw[bo,hx];rfl)⟩
theorem lB (h:S[x]?=some M) (M':BM):cK (S.set x M')+M.I.length=cK S+M'.I.length:=by
 unfold cK
 induction S generalizing x with
 |nil=>simp at h
 |cons y S D=>
  cases x with
  |zero=>simp at h;subst h;simp;omega
  |succ x=>
   have:=D (x:=x) (by simpa using h);simp only[List.set_cons_succ,aW,cN];omega
theorem Pu (h:S[x]?=some M):M.I.length<=cK S:=by
 have:=lB h ⟨[],[]⟩;have D:(BM.mk [] []).I.length=0:=rfl;omega
theorem nS (h:S[x]?=some M) (id q:Int):cutAt S x id q=S.set x (M.cut id q):=by unfold cutAt;rw[h]
theorem LG (h:S[x]?=some M) (k:Nat) (id p q:Int):oW S x k id p q=S.set x (M.add k id p q):=by unfold oW;rw[h]
theorem nX {y:Nat} {N:BM} (h:(S.set x M)[y]?=some N):(y=x/\N=M)\/(y≠x/\S[y]?=some N):=mm h
def rF (C:NF) (x:Nat) (w w':World):Nat→Nat→Prop:=fun y=>if y=x then grow (C.Fs x) w w' else C.Fs y
theorem qj.change (h:qj w s P S C) (hb:C.bs[x]?=some b) (hM:S[x]?=some M) (L:Lv (fun k=>C.Fs x k\/k=C.mb) w w') (hB:cz w' (grow (C.Fs x) w w') b M')
  (hm:fR w' C.mb f' (cK (S.set x M')))
  (fw:∀(y:Nat) (N:BM) (e:dn),(S.set x M')[y]?=some N->e∈N.I->f' e.id=some (Iz (y:Int)))
  (bw:∀(id:Int) (v:Value),f' id=some v->∃(y:Nat) (N:BM) (e:dn),(S.set x M')[y]?=some N/\e∈N.I/\e.id=id/\v= Iz (y:Int))
  (pr:∀(k:Nat) (r:iQ),r∈M'.side k->P.fy x r.1=0) (cnt:cK (S.set x M')<=250):qj w' s P (S.set x M') {C with Fs:=rF C x w w',f:=f'}:=by
 have a5:∀k,C.QH s k->k≠C.mb->¬(C.Fs x k\/k=C.mb):=fun k J a3 hF=>by
  rcases hF with hF|hF
  ·exact(h.off x k hF).1 J
  ·exact a3 hF
 have a6:∀{cs T},w.heap[C.mb]?=some (.cells cs T (0,0))->False:=fun hc=>by
  obtain⟨D,⟨es,clock,a7,_⟩,_⟩:=h.mp;rw[hc] at a7;cases a7
 have a4:∀{y k},rF C x w w' y k->C.Fs y k\/(w.heap.size<=k/\k<w'.heap.size/\y=x):=by
  intro y k J;unfold rF at J
  split at J
  ·rename_i hy
   subst hy;rcases J with J|J
   ·exact .inl J
   ·exact .inr ⟨J.1,J.2,rfl⟩
  ·exact .inl J
 refine⟨h.D.lv L (a5 s (.inl rfl) fun e=>?_),h.pd.same (fun k J a8=>L.block k a8 ?_) L.size,aX h.ob fun g hg=>L.block g (h.ob.lt g hg).2 (a5 g (.inr (.inr hg)) fun e=>?_),h.bn,by rw[jn];exact h.sn,fun y b' N O h2=>?_,fun y z k O h2=>?_,fun y k O=>?_,h.Yv,
  fun y k O=>?_,fun k J=>aA (h.Ps k J) L.size,hm,fw,bw,fun y k N r O h2=>?_,cnt⟩
 ·have a0:=h.D
  unfold aE at a0;rw[e] at a0;exact a6 a0
 ·rintro(hF|rfl)
  ·exact(h.off x k hF).2 J
  ·exact h.Yv _ J (.inr (.inl rfl))
 ·obtain⟨cur,hc⟩:=bY h.ob hg
  rw[e] at hc;exact a6 hc
 ·rcases nX h2 with⟨rfl,rfl⟩|⟨a3,h2⟩
  ·rw[hb] at O
   injection O with O;subst O;show cz w' (rF C y w w' y) b N;unfold rF;rw[if_pos rfl];exact hB
  ·show cz w' (rF C x w w' y) b' N
   unfold rF;rw[if_neg a3];refine(h.bk y b' N O h2).lv L ?_;rintro k J (hF|rfl)
   ·exact a3 (h.dj y x k J hF)
   ·exact(h.off y _ J).1 (.inr (.inl rfl))
 ·rcases a4 O with a1|⟨a1,_,ax⟩<;>rcases a4 h2 with a2|⟨a2,_,ay⟩
  ·exact h.dj y z k a1 a2
  ·have:=h.NG y k a1;omega
  ·have:=h.NG z k a2;omega
  ·rw[ax,ay]
 ·rcases a4 O with a1|⟨a1,_,ax⟩
  ·exact h.off y k a1
  ·refine⟨fun ho=>?_,fun hr=>?_⟩
   ·have:=h.Pt k ho;omega
   ·have:=h.Ps k hr;omega
 ·rcases a4 O with a1|⟨_,a1,_⟩
  ·exact aA (h.NG y k a1) L.size
  ·exact a1
 ·rcases nX O with⟨rfl,rfl⟩|⟨_,O⟩
  ·exact pr k r h2
  ·exact h.pr y k N r O h2
theorem Tryz.Gz (w:World):(zeroValue 3).run Tryz.prog w= .ok (Iz 0) w:=by kernel_rfl
theorem pU {f:Int->Option Value} (h:fR w b f n) (D:dZ id):
  (Instr.lookup 107 (.map (some b)) (Iz id) true).run Tryz.prog w= .ok (.tuple #[(f id).getD (Iz 0), .bool (f id).isSome]) w:=
 h.look_ok Tryz.underlying107 (Tryz.Gz w) D
theorem Sf (hr:r∈l) (he:e∈r.2) (hq:e.id=id->q<e.aw):∃r'∈kZ id q l,∃e'∈r'.2,e'.id=e.id:=by
 by_cases D:e.id=id
 ·have hx:fS id q e=some {e with aw:=e.aw - q}:=by unfold fS;rw[if_pos D,if_neg (cA (hq D))]
  obtain⟨r',I,J⟩:=rh hr he hx;exact⟨r',I,_,J,rfl⟩
 ·have hx:fS id q e=some e:=by unfold fS;rw[if_neg D]
  obtain⟨r',I,J⟩:=rh hr he hx;exact⟨r',I,_,J,rfl⟩
theorem qj.known (h:qj w s P S C) {k:Nat} (J:S[x]?=some M) (hr:r∈M.side k) (he:e∈r.2):C.f e.id=some (Iz (x:Int))/\dZ e.id/\1<=e.aw/\e.aw<=1000000/\x<P.count:=by
 have hx:x<P.count:=by rw[<-h.sn];exact(az.1 J).1
 obtain⟨b,M',h1,I,O⟩:=h.book hx;rw[J] at I;injection I with I;subst I;have D:=fX hr he;have:=O.ok.ok e D;exact⟨h.fw x M e J D,this.2.2,this.1,this.2.1,hx⟩
theorem vp (s:Nat) (P:PD) (S:Sm) (G R:Nat->Prop) (x k:Nat) (M:BM) (r:iQ) (e:dn) (id aw:Int) (w:World) (h:dR w G R s P S) (hM:S[x]?=some M) (hr:r∈M.side k) (he:e∈r.2) (ax:e.id=id) (O:k<2) (hq:1<=aw/\aw<=e.aw):
  Wz 72 #[Pz s,Iz id,Iz aw] w fun e w'=>e= .returned (Iz 0)/\dR w' (grow G w w') R s P (cutAt S x id aw)/\Lv G w w':=by
 obtain⟨C,hS,bh,a2,hR⟩:=h;obtain⟨kf,ki,d5,d6,kx⟩:=hS.known hM hr he;rw[ax] at kf ki;obtain⟨b,M',hb,a8,hB⟩:=hS.book kx;rw[hM] at a8;injection a8 with a8;subst a8;obtain⟨gA,hA,hp⟩:=mB hS.ob hb;have bp:=pU hS.mp ki;rw[kf] at bp;simp only[qo,oG] at bp;have b3:Cz w s 11 (.slice (some ⟨gA,0,none⟩) C.bs.length C.c):=hA▸hS.D.cell 11;have cS:Cz w s 12 (.map (some C.mb)):=hS.D.cell 12;obtain⟨N,eN⟩:=Zn C.bs.length;rw[<-eN] at b3;have d7:(x:Int)<N:=by rw[eN,hS.bn];omega
 obtain⟨HS,HB,HM,HR,HE,b4,b5,b6,b7,HP,EN,HQ,bt⟩:=QO hS hB hM hr he ax ki kf hA hp eN hq hb;clear hS hB hM hr he ki kf hA eN hb kx
 go_enter Tryz.func72,Tryz.ntmps72
 go_wp2_with fail;refine(Pp b M (C.Fs x) k r e id aw w HB.h HR.h HE.h ax hq).mono ?_;rintro en w1⟨rfl,b8,L1⟩;have off:=fun k (O:C.QH s k) (hF:C.Fs x k)=>(HS.h.off x k hF).1 O;have a0:=HS.h.D.lv L1 (off s (.inl rfl));have d3:Cz w1 s 11 (.slice (some ⟨gA,0,none⟩) N C.c):=b7.h▸EN.h▸a0.cell 11;have b9:Cz w1 s 12 (.map (some C.mb)):=a0.cell 12;have cd:=aX HS.h.ob fun g hg=>L1.block g (HS.h.ob.lt g hg).2 (off g (.inr (.inr hg)));obtain⟨d8,a3,d9⟩:=mB cd bt.h;rw[b7.h] at a3;injection a3 with a3;injection a3 with a3 _;subst a3;have cT:s<w1.heap.size:=a0.lt;have cf:=HS.h.mp.lv L1 (off _ (.inr (.inl rfl)));obtain⟨ba,bE,bc⟩:=fY b8 L1 cf;clear a0 cd b8 L1 b3 cS hp bp cf;have xX:=HB.h.ok
 by_cases bb:aw<e.aw
 ·obtain⟨r',bH,e',ck,bf⟩:=Sf (l:=M.side k) HR.h HE.h (id:=id) (q:=aw) (fun _=>bb)
  rw[<-rE] at bH;obtain⟨cl,bQ,cX,c0,dc⟩:=rU bb xX bH ck (bf.trans ax);clear bb xX bH ck bf ax hq;go_wp2_with fail;refine(yH b (M.cut id aw) _ k ((k:Int)+1) r' e' id w1 ba.h O rfl cX.h c0.h dc.h).mono ?_;rintro en w2⟨rfl,b2⟩;go_wp2_with fail;go_ret;have bR:(M.cut id aw).I.length=M.I.length:=by
   rw[iI];exact Jo fun y hy a5=>by
    have:y=e:=uB bQ.h.nd hy (fX HR.h HE.h) (a5.trans b4.h.symm);rw[this];exact cl.h
  obtain⟨w3,ay⟩:=Zn (w2.alloc (.cells #[Iz id,Iz ((k:Int)+1),Iz r'.1,Iz e'.aw, .bool e'.top] 81));rw[<-ay];have B3:Bz w1 w3:=ay▸au b2 _;have a4:cK (S.set x (M.cut id aw))=cK S:=cA (lB HM.h (M.cut id aw));have bU:=HS.h.change (w':=w3) bt.h HM.h ((Lv.cV bE.h B3).mono fun k O=> .inl (.inl O)) (M':=M.cut id aw)
   ((ba.h.below B3).mono fun j hj _=>by rcases hj with hj|⟨h1,h2⟩;exact .inl hj;exact .inr ⟨h1,aA h2 B3.size⟩) (f':=C.f) (a4▸bc.h.below B3)
   (fun y N' e0 h1 h2=>by
    rcases nX h1 with⟨rfl,rfl⟩|⟨cm,h1⟩
    ·rw[iI] at h2
     obtain⟨e1,h3,h4,_⟩:=pT h2;rw[<-h4];exact HS.h.fw y M e1 HM.h h3
    ·exact HS.h.fw y N' e0 h1 h2)
   (fun i v hv=>by
    obtain⟨y,N',e0,h1,h2,h3,h4⟩:=HS.h.bw i v hv
    by_cases hy:y=x
    ·subst hy
     rw[HM.h] at h1;injection h1 with h1;subst h1;obtain⟨e1,h5,h6⟩:=R9 (id:=id) (q:=aw) h2 fun a5=>by
      have:e0=e:=uB bQ.h.nd h2 (fX HR.h HE.h) (a5.trans b4.h.symm);rw[this];exact cl.h
     refine⟨y,_,e1,aD (az.1 HM.h).1,by rw[iI];exact h5,h6.trans h3,h4⟩
    ·exact⟨y,N',e0,by rw[aZ (fun e=>hy e.symm)];exact h1,h2,h3,h4⟩)
   (fun kk rr a6=>by
    rw[rE] at a6;obtain⟨r0,h1,h2⟩:=NC a6;rw[<-h2];exact HS.h.pr x kk M r0 HM.h h1)
   (a4▸HS.h.cnt)
  rw[nS HM.h];refine⟨rfl,⟨_,bU,fun k O=> .inl (bh k O),fun y j hj=>?_,hR⟩,(Lv.cV bE.h B3).mono fun k O=> .inl (a2 x k O)⟩;have J:rF C x w w3 y j:=hj;unfold rF at J
  split at J
  ·rcases J with J|J
   ·exact .inl (a2 x j J)
   ·exact .inr J
  ·exact .inl (a2 y j J)
 ·have cn:∀y∈(M.cut id aw).I,y.id≠id:=by
   rw[iI];exact yJ xX.nd (fX HR.h HE.h) ax ae
  have bR:(M.cut id aw).I.length+1=M.I.length:=by
   rw[iI];exact Ae xX.nd (fX HR.h HE.h) ax ae
  obtain⟨bQ,ct,dp⟩:=fY xX cn bR;clear bb xX cn bR ax hq;go_wp2_with fail;refine(Pn b (M.cut id aw) _ id w1 ba.h b5.h ct.h).mono ?_;rintro en w2⟨rfl,b2⟩;obtain⟨w3,ay⟩:=Zn (w2.alloc (.cells #[Iz 0,Iz 0,Iz 0,Iz 0, .bool false] 81));have B3:Bz w1 w3:=ay▸au b2 _;obtain⟨w4,cv,a7,cF⟩:=(bc.h.below B3).del Tryz.underlying107 b5.h 0;rw[b6.h] at a7;simp only[oG,if_true] at a7;have cs:=lB HM.h (M.cut id aw);have a4:cK (S.set x (M.cut id aw))=cK S - 1:=cA dp.h;rw[<-a4] at a7;have dS:Cz w3 s 12 (.map (some C.mb)):=Yb B3 cT b9;rw[ay] at cv dS;obtain⟨dT,bV,b0,ea,d2⟩:=rU a7 cF B3 ay a4;clear a7 cF B3 b2 ay cs a4;go_wp2_with fail;go_ret;have eb:∀{k:Nat} {cs:Array Value} {T:TypeId},w.heap[k]?=some (.cells cs T (0,0))->k≠C.mb:=fun {k cs T} hc e=>by
   obtain⟨D,⟨es,clock,cH,_⟩,_⟩:=HS.h.mp;rw[e] at hc;rw[hc] at cH;cases cH
  have L4:Lv (fun k=>C.Fs x k\/k=C.mb) w w4:=((Lv.cV bE.h b0.h).mono (G:=fun k=>C.Fs x k\/k=C.mb) fun k O=> .inl (.inl O)).then (Lv.dy bV.h fun k O=> .inl (.inr (by injection O with O;exact O.symm)));have cQ:∀k,C.Fs x k->k≠C.mb:=fun k O e=>(HS.h.off x k O).1 (.inr (.inl e));have d4:w3.heap.size<=w4.heap.size:=bV.h.size;have B4:cz w4 (grow (C.Fs x) w w4) b (M.cut id aw):=by
   have h3:=ba.h.below b0.h;have h4:cz w4 (grow (C.Fs x) w w1) b (M.cut id aw):=h3.same fun k O hF=>bV.h.block k O fun e=>by
    injection e with e;rcases hF with hF|⟨h5,_⟩
    ·exact cQ k hF e
    ·have:=HS.h.Pt C.mb (.inr (.inl rfl));omega
   refine h4.mono fun j hj _=>?_;rcases hj with hj|⟨h5,h6⟩
   ·exact .inl hj
   ·exact .inr ⟨h5,cA b0.h.size⟩
  have bU:=HS.h.change (w':=w4) bt.h HM.h L4 B4 dT.h
   (fun y N' e0 h1 h2=>by
    rcases nX h1 with⟨rfl,rfl⟩|⟨cm,h1⟩
    ·have h9:=ct.h e0 h2
     rw[iI] at h2;obtain⟨e1,h3,h4,_⟩:=pT h2;rw[if_neg h9,<-h4];exact HS.h.fw y M e1 HM.h h3
    ·have h9:=HS.h.fw y N' e0 h1 h2
     rw[if_neg]
     ·exact h9
     ·intro e9
      rw[e9,b6.h] at h9;injection h9 with h9;injection h9 with _ h9;exact cm ae)
   (fun i v hv=>by
    by_cases hi:i=id
    ·rw[if_pos hi] at hv;cases hv
    ·rw[if_neg hi] at hv
     obtain⟨y,N',e0,h1,h2,h3,h4⟩:=HS.h.bw i v hv
     by_cases hy:y=x
     ·subst hy
      rw[HM.h] at h1;injection h1 with h1;subst h1;obtain⟨e1,h5,h6⟩:=R9 (id:=id) (q:=aw) h2 fun a5=>absurd (h3.symm.trans a5) hi;refine⟨y,_,e1,aD (az.1 HM.h).1,by rw[iI];exact h5,h6.trans h3,h4⟩
     ·exact⟨y,N',e0,by rw[aZ (fun e=>hy e.symm)];exact h1,h2,h3,h4⟩)
   (fun kk rr a6=>by
    rw[rE] at a6;obtain⟨r0,h1,h2⟩:=NC a6;rw[<-h2];exact HS.h.pr x kk M r0 HM.h h1)
   (by rw[d2.h];have:=HS.h.cnt;omega)
  rw[nS HM.h];refine⟨rfl,⟨_,bU,fun k O=> .inl (bh k O),fun y j hj=>?_,hR⟩,L4.mono fun k O=> .inl ?_⟩
  ·have J:rF C x w w4 y j:=hj
   unfold rF at J
   split at J
   ·rcases J with J|J
    ·exact .inl (a2 x j J)
    ·exact .inr J
   ·exact .inl (a2 y j J)
  ·rcases O with O|rfl
   ·exact a2 x k O
   ·exact bh _ (.inr (.inl rfl))
theorem Cs (h:S[x]?=some M):S.set x M=S:=by
 apply fA;intro j
 by_cases D:j=x
 ·subst D
  rw[aD (az.1 h).1,h]
 ·rw[aZ (fun e=>D e.symm)]
theorem LI (s:Nat) (P:PD) (S:Sm) (G R:Nat->Prop) (x k:Nat) (M:BM) (r:iQ) (e:dn) (id aw:Int) (w:World) (h:dR w G R s P S) (hM:S[x]?=some M) (hr:r∈M.side k) (he:e∈r.2) (J:e.id=id) (hk:k<2) (hq:aw<1):
  Wz 72 #[Pz s,Iz id,Iz aw] w fun e w'=>e= .returned (Iz 24)/\Bz w w':=by
 obtain⟨C,hS,a6,a7,hR⟩:=h;obtain⟨kf,ki,a8,ba,kx⟩:=hS.known hM hr he;rw[J] at kf ki;obtain⟨b,M',hb,I,hB⟩:=hS.book kx;rw[hM] at I;injection I with I;subst I;obtain⟨gA,hA,hp⟩:=mB hS.ob hb;have O:=pU hS.mp ki;rw[kf] at O;simp only[qo,oG] at O;have ax:Cz w s 11 (.slice (some ⟨gA,0,none⟩) C.bs.length C.c):=hA▸hS.D.cell 11;have a0:Cz w s 12 (.map (some C.mb)):=hS.D.cell 12;have a2:gA<w.heap.size:=(hS.ob.lt gA (by rw[hA];rfl)).2;have a3:=hS.D.lt;obtain⟨N,eN⟩:=Zn C.bs.length;rw[<-eN] at ax;have bb:(x:Int)<N:=by rw[eN,hS.bn];omega
 obtain⟨HS,HB,HR,HE,ay,EN⟩:=FW hS hB hr he J eN;clear hS hB hM hr he ki kf hA eN hb kx J
 go_enter Tryz.func72,Tryz.ntmps72
 go_wp2_with fail;refine(Po b M (C.Fs x) k r e id aw w HB.h HR.h HE.h ay.h hq).mono ?_;rintro en w1⟨rfl,b1⟩;have bc:Cz w1 s 11 (.slice (some ⟨gA,0,none⟩) N C.c):=Yb b1 a3 ax;have dp:Cz w1 gA x (Pz b):=Yb b1 a2 hp;obtain⟨a4,a5⟩:=dF (HB.h.below b1) b1;clear ax a0 hp O b1;go_wp2_with fail;refine(yH b M _ k ((k:Int)+1) r e id w1 a4.h hk rfl HR.h HE.h ay.h).mono ?_;rintro en w2⟨rfl,b2⟩;go_wp2_with fail;go_ret;exact⟨rfl,au (dW a5.h b2) _⟩
theorem Ct:∀{es:List dn} {cs:List Int} {M:BM} {m:Nat} {e:dn} {c:Int},es[m]?=some e->cs[m]?=some c->ja M (es.take (m+1)) (cs.take (m+1))=if 0<c then (ja M (es.take m) (cs.take m)).cut e.id c else ja M (es.take m) (cs.take m)
 |[],cs,M,m,e,c,h,_=>by simp at h
 |x::es,[],M,m,e,c,_,h=>by simp at h
 |x::es,y::cs,M,0,e,c,h,D=>by
  simp at h D;subst h;subst D;simp[ja]
 |x::es,y::cs,M,m+1,e,c,h,D=>by
  simp only[nB,ja];exact Ct (by simpa using h) (by simpa using D)
theorem zq {x k:Nat} {p:Int}:∀{es:List dn} {cs:List Int} {m:Nat} {e:dn} {c:Int},es[m]?=some e->cs[m]?=some c->dC x k p (es.take (m+1)) (cs.take (m+1))=dC x k p (es.take m) (cs.take m)++if 0<c then [⟨e.id,x,k,p,c,e.aw - c⟩] else []
 |[],cs,m,e,c,h,_=>by simp at h
 |z::es,[],m,e,c,_,h=>by simp at h
 |z::es,y::cs,0,e,c,h,D=>by
  simp at h D;subst h;subst D
  by_cases hc:0<y<;>simp[dC,hc]
 |z::es,y::cs,m+1,e,c,h,D=>by
  have I:=zq (x:=x) (k:=k) (p:=p) (es:=es) (cs:=cs) (m:=m) (e:=e) (c:=c) (by simpa using h) (by simpa using D);simp only[nB,dC]
  by_cases hc:0<y
  ·simp only[if_pos hc,I,fO]
  ·simp only[if_neg hc,I]
theorem wQ {k:Nat}:∀{es:List dn} {cs:List Int} {M:BM} {r:iQ} {e:dn},r∈M.side k->e∈r.2->(∀x∈es,x.id≠e.id)->∃r'∈(ja M es cs).side k,e∈r'.2
 |[],cs,M,r,e,hr,he,_=>by
  cases cs with
  |nil=>exact⟨r,hr,he⟩
  |cons a b=>exact⟨r,hr,he⟩
 |x::es,[],M,r,e,hr,he,_=>⟨r,hr,he⟩
 |x::es,y::cs,M,r,e,hr,he,hn=>by
  rw[ja]
  by_cases hc:0<y
  ·rw[if_pos hc]
   have hx:fS x.id y e=some e:=by unfold fS;rw[if_neg];exact fun h=>hn x bT h.symm
   obtain⟨r',I,J⟩:=rh hr he hx;exact wQ (r:=r') (by rw[rE];exact I) J fun z D=>hn z (by simp[D])
  ·rw[if_neg hc]
   exact wQ hr he fun z D=>hn z (by simp[D])
theorem xY:∀{l:List dn} {m:Nat} {e:dn},(l.map (·.id)).Nodup->l[m]?=some e->∀x∈l.take m,x.id≠e.id
 |[],m,e,_,h=>by simp at h
 |y::l,0,e,_,_=>by intro x hx;simp at hx
 |y::l,m+1,e,hn,h=>by
  rw[aW,yk] at hn;intro x hx;rw[nB] at hx;have D:l[m]?=some e:=by simpa using h
  rcases a9.1 hx with rfl|hx
  ·intro he
   exact hn.1 (aV.2 ⟨e,aH D,he.symm⟩)
  ·exact xY hn.2 D x hx
theorem Jp (h:r∈l):r.2.Sublist (gY l):=by
 unfold gY
 induction l with
 |nil=>cases h
 |cons x l D=>
  rw[bj];rcases a9.1 h with rfl|h
  ·exact TG _ _
  ·exact(D h).trans (QL _ _)
theorem Sg {k:Nat} (h:r∈M.side k):r.2.Sublist M.I:=by
 unfold BM.side at h;unfold BM.I
 split at h
 ·exact(Jp h).trans (TG _ _)
 ·exact(Jp h).trans (QL _ _)
theorem EE.lvl (h:EE M) {k:Nat} (hr:r∈M.side k):(r.2.map (·.id)).Nodup/\r.2.length<=250/\∀e∈r.2,1<=e.aw/\e.aw<=1000000/\dZ e.id:=by
 have hs:=Sg hr;exact⟨h.nd.sublist (hs.map _),aF hs.length_le h.cnt,fun e he=>h.ok e (hs.subset he)⟩
theorem Cu (s p:Int) (L:List dn):lT (L.map (kB s p))=L.map (·.aw):=by
 unfold lT;rw[di];rfl
theorem yL (I:P.gZ) (h:EE M) {k:Nat} (hr:r∈M.side k) (hq:0<=q) (J:q<=mq r.2):(mA P k r q).length=r.2.length/\∀(m:Nat) (e:dn),r.2[m]?=some e->∃c,(mA P k r q)[m]?=some c/\0<=c/\c<=e.aw:=by
 obtain⟨h1,h2,h3⟩:=h.lvl hr;have O:eh (lT (r.2.map (kB ((k:Int)+1) r.1))) q=true:=by
  rw[iC,Cu];refine⟨by rw[br];exact h2,hq,fun n hn=>?_,J⟩;obtain⟨e,he,rfl⟩:=aV.1 hn;exact⟨(h3 e he).1,(h3 e he).2.1⟩
 have D:=VR (ru:=P.rule) (top:=P.top) (le:=P.least) (pa:=P.part) O (jE I.I8 I.I9) I.yB I.BP I.Ja I.Jb;rw[Cu] at D;refine⟨by have:=D.len;rw[br] at this;exact this,fun m e he=>?_⟩;exact D.at_ m e.aw (by rw[bo,he];rfl)
def fG.cells (f:fG):List Value:=[Iz f.id,Iz (f.inst:Int),Iz ((f.k:Int)+1),Iz f.ag,Iz f.aw,Iz f.left]
theorem fG.bG (f:fG):f.cells.length=6:=rfl
def gW (l:List fG):List Value:=l.flatMap fG.cells
theorem Jq (l:List fG) (f:fG):gW (l++[f])=gW l++f.cells:=by simp[gW]
theorem sK {x k:Nat} {p:Int}:∀(es:List dn) (cs:List Int),(dC x k p es cs).length<=es.length
 |[],cs=>by simp[dC]
 |e::es,[]=>by simp[dC]
 |e::es,c::cs=>by
  rw[dC];have:=sK (x:=x) (k:=k) (p:=p) es cs
  split
  ·simp;omega
  ·simp;omega
theorem CI (k:Nat):∀(l:List Qt) (b:Qt),l.foldl (fun b q=>if bz k q.ag b.ag=true then q else b) b=b\/l.foldl (fun b q=>if bz k q.ag b.ag=true then q else b) b∈l
 |[],b=> .inl rfl
 |q::l,b=>by
  rw[MW]
  by_cases h:bz k q.ag b.ag=true
  ·rw[if_pos h]
   rcases CI k l q with D|D
   ·rw[D];exact .inr bT
   ·exact .inr (bB _ D)
  ·rw[if_neg h]
   rcases CI k l b with D|D
   ·exact .inl D
   ·exact .inr (bB _ D)
theorem vt {k:Nat} {l:List Qt} {q:Qt} (h:nF k l=some q):q∈l:=by
 cases l with
 |nil=>cases h
 |cons x l=>
  unfold nF at h;injection h with h;rcases CI k (x::l) x with D|D
  ·rw[D] at h;subst h;simp
  ·rw[h] at D;exact D
structure XS (n:Nat) (tp:kJ) (x k:Nat) (q:Qt):Prop where
 ne:q.i0≠q.i1
 k0:q.k0<2
 k1:q.k1<2
 t:∃p0 q0 p1 q1,tp q.i0 q.k0=some (p0,q0)∧tp q.i1 q.k1=some (p1,q1)∧q.aw=min q0 q1∧
  ((x<n∧q.i0=fv n x q.i1∧x<q.i1∧q.i1<n∧q.k0=k∧q.k1=k∧q.ag=p0+p1)∨
   (x<n∧q.i0=fv n q.i1 x∧q.i1<x∧q.k0=1 - k∧q.k1=k∧q.ag=p1 - p0)∨
   (n≤x∧q.i0=(cy n x).1∧q.i1=(cy n x).2∧q.k0=k∧q.k1=1 - k∧q.ag=p0 - p1))
theorem uG {tp:kJ} {a D kb:Nat} {less:Bool} {q:Qt} (h:xe tp a D b kb less=some q):q.i0=a/\q.k0=D/\q.i1=b/\q.k1=kb/\∃I q0 p1 q1,tp a D=some (I,q0)/\tp b kb=some (p1,q1)/\q.aw=min q0 q1/\q.ag=if less=true then p1 - I else I+p1:=by
 unfold xe at h
 split at h
 ·rename_i x y J O
  injection h with h;subst h;exact⟨rfl,rfl,rfl,rfl,x.1,x.2,y.1,y.2,J,O,rfl,rfl⟩
 ·cases h
theorem PD.gZ.quote (hP:P.gZ) {tp:kJ} {k:Nat} {q:Qt} (hx:x<P.count) (hk:k<2) (h:q∈mG P.n tp x k):XS P.n tp x k q:=by
 unfold mG at h
 by_cases hn:x<P.n
 ·rw[if_pos hn] at h
  rcases aJ.1 h with h|h
  ·obtain⟨j,hj,h⟩:=ee.1 h
   rw[List.mem_range'_1] at hj;obtain⟨e1,e2,D,I,J,q0,p1,q1,O,h2,h3,h4⟩:=uG h;have hs:=hP.spread (i:=x) (j:=j) ae ae;refine⟨by rw[e1,D];omega,ae,ae,J,q0,p1,q1,e1▸e2▸O,D▸I▸h2,h3, .inl ⟨hn,by rw[e1,D],ae,ae,e2,I,by rw[h4];rfl⟩⟩
  ·obtain⟨i,hi,h⟩:=ee.1 h
   rw[iT] at hi;obtain⟨e1,e2,D,I,J,q0,p1,q1,O,h2,h3,h4⟩:=uG h;have hs:=hP.spread (i:=i) (j:=x) hi hn;refine⟨by rw[e1,D];omega,ae,ae,J,q0,p1,q1,e1▸e2▸O,D▸I▸h2,h3, .inr (.inl ⟨hn,by rw[e1,D],ae,e2,I,by rw[h4];rfl⟩)⟩
 ·rw[if_neg hn] at h
  have hl:=hP.RG (x:=x) ae hx
  cases hm:xe tp (cy P.n x).2 (1 - k) (cy P.n x).1 k true with
  |none=>rw[hm] at h;simp at h
  |some q'=>
   rw[hm] at h;simp at h;subst h;obtain⟨e1,e2,D,I,J,q0,p1,q1,O,h2,h3,h4⟩:=uG hm;have f1:(rp q').i0=(cy P.n x).1:=D;have f2:(rp q').k0=k:=I;have f3:(rp q').i1=(cy P.n x).2:=e1;have f4:(rp q').k1=1 - k:=e2;have f5:(rp q').aw=min q0 q1:=h3;have f6:(rp q').ag=p1 - J:=by show q'.ag=_;rw[h4];rfl
   exact⟨by rw[f1,f3];omega,ae,ae,p1,q1,J,q0,f1▸f2▸h2,f3▸f4▸O,by rw[f5];omega, .inr (.inr ⟨ae,f1,f3,f2,f4,f6⟩)⟩
theorem qF {tp:kJ} {k:Nat} {q:Qt} (h:q∈iq P tp x k):q∈mG P.n tp x k/\P.fy x q.ag=0:=by
 obtain⟨D,I⟩:=lX.1 h;exact⟨D,by simpa using I⟩
theorem oE {k:Nat} (h:lU S x k=some (p,q)):∃M r l,S[x]?=some M/\M.side k=r::l/\r.1=p/\mq r.2=q:=by
 unfold lU at h
 cases D:S[x]? with
 |none=>rw[D] at h;cases h
 |some M=>
  rw[D] at h;unfold yG at h
  cases hs:M.side k with
  |nil=>simp only[hs] at h;cases h
  |cons r l=>
   simp only[hs] at h;injection h with h;injection h with I J;exact⟨M,r,l,rfl,hs,I,J⟩
theorem Jx {k:Nat}:∀{es:List dn} {cs:List Int},cs.length=es.length->1<=cs.sum->dC x k p es cs≠[]
 |[],[],_,h=>by simp at h
 |e::es,[],h,_=>by simp at h
 |[],c::cs,h,_=>by simp at h
 |e::es,c::cs,D,h=>by
  rw[dC]
  by_cases hc:0<c
  ·rw[if_pos hc];simp
  ·rw[if_neg hc]
   rw[cN] at h;exact Jx (by simpa using D) ae
theorem LQ (D:P.gZ) (h:EE M) {k:Nat} (hr:r∈M.side k) (hq:0<=q) (I:q<=mq r.2):(mA P k r q).sum=q:=by
 obtain⟨h1,h2,O⟩:=h.lvl hr;have J:eh (lT (r.2.map (kB ((k:Int)+1) r.1))) q=true:=by
  rw[iC,Cu];refine⟨by rw[br];exact h2,hq,fun n hn=>?_,I⟩;obtain⟨e,he,rfl⟩:=aV.1 hn;exact⟨(O e he).1,(O e he).2.1⟩
 exact(VR (ru:=P.rule) (top:=P.top) (le:=P.least) (pa:=P.part) J (jE D.I8 D.I9) D.yB D.BP D.Ja D.Jb).sum
theorem uH (I:P.gZ) {k:Nat} (h:EE M) (J:S[x]?=some M) (hs:M.side k=r::l) (hq:1<=q) (D:q<=mq r.2):(bM P S x k q).2≠[]/\(bM P S x k q).2.length<=250:=by
 have hr:r∈M.side k:=by rw[hs];simp
 have O:=yL I h hr ae D;have h2:=LQ I h hr ae D;unfold bM;rw[J];simp only[hs];exact⟨Jx O.1 ae,aF (sK _ _) (h.lvl hr).2.1⟩
theorem yN {k:Nat} {y:Nat} (h:y≠x):(bM P S x k q).1[y]?=S[y]?:=by
 unfold bM
 split
 ·rfl
 ·split
  ·rfl
  ·rw[aZ (fun e=>h e.symm)]
def rK (M' M:BM):Prop:=(∀e∈M'.I,∃e0∈M.I,e0.id=e.id)∧M'.I.length≤M.I.length
theorem rK.refl (M:BM):rK M M:=⟨fun e he=>⟨e,he,rfl⟩,af _⟩
theorem rK.trans {A B C:BM} (h:rK A B) (D:rK B C):rK A C:=⟨fun e he=>by
 obtain⟨I,J,O⟩:=h.1 e he;obtain⟨e1,h3,h4⟩:=D.1 I J;exact⟨e1,h3,h4.trans O⟩,aF h.2 D.2⟩
theorem rK.cut (M:BM) (id q:Int):rK (M.cut id q) M:=by
 constructor
 ·intro e he
  rw[iI] at he;obtain⟨D,I,J,_⟩:=pT he;exact⟨D,I,J⟩
 ·rw[iI]
  exact vK _ _
theorem rK.CL:∀(es:List dn) (cs:List Int) (M:BM),rK (ja M es cs) M
 |[],cs,M=>by unfold ja;exact rK.refl M
 |e::es,[],M=>by unfold ja;exact rK.refl M
 |e::es,c::cs,M=>by
  unfold ja;refine(rK.CL es cs _).trans ?_
  split
  ·exact rK.cut M e.id c
  ·exact rK.refl M
structure Sub (S' S:Sm):Prop where
 len:S'.length=S.length
 aK:∀(x:Nat) (M':BM) (e:dn),S'[x]?=some M'→e∈M'.I→∃M e0,S[x]?=some M∧e0∈M.I∧e0.id=e.id
 cnt:cK S'≤cK S
theorem Sub.refl (S:Sm):Sub S S:=⟨rfl,fun x M e D I=>⟨M,e,D,I,rfl⟩,af _⟩
theorem Sub.trans {A B C:Sm} (h:Sub A B) (D:Sub B C):Sub A C:=⟨h.len.trans D.len,fun x M e I J=>by
 obtain⟨O,e1,h3,h4,h5⟩:=h.aK x M e I J;obtain⟨M2,e2,h6,h7,h8⟩:=D.aK x O e1 h3 h4;exact⟨M2,e2,h6,h7,h8.trans h5⟩,aF h.cnt D.cnt⟩
theorem Sub.set (h:S[x]?=some M) (hs:rK M' M):Sub (S.set x M') S:=⟨bT,fun y N e D I=>by
 rcases nX D with⟨rfl,rfl⟩|⟨_,D⟩
 ·obtain⟨J,O,h4⟩:=hs.1 e I
  exact⟨M,J,h,O,h4⟩
 ·exact⟨N,e,D,I,rfl⟩,jE (lB h M') hs.2⟩
theorem Sub.cutAt (S:Sm) (x:Nat) (id q:Int):Sub (cutAt S x id q) S:=by
 unfold Go.Proofs.YtbaaheidifacaaaGreat.cutAt
 split
 ·rename_i M D
  exact Sub.set D (rK.cut M id q)
 ·exact Sub.refl S
theorem Sub.nr (P:PD) (S:Sm) (x k:Nat) (q:Int):Sub (bM P S x k q).1 S:=by
 unfold bM
 split
 ·exact Sub.refl S
 ·rename_i M D
  split
  ·exact Sub.refl S
  ·exact Sub.set D (rK.CL _ _ M)
theorem Sub.nT (P:PD) (S:Sm) (x k:Nat) (im:Option Qt) (t:Int):Sub (dA P S x k im t).1 S:=by
 cases im with
 |none=>exact Sub.nr P S x k t
 |some Q=>exact(Sub.nr P _ _ _ t).trans (Sub.nr P S _ _ t)
theorem Sub.run (P:PD):∀(f:Nat) (S:Sm) (x k:Nat) (ag aw:Int),Sub (dV P f S x k ag aw).1 S
 |0,S,_,_,_,_=>Sub.refl S
 |f+1,S,x,k,ag,aw=>by
  unfold dV
  split
  ·exact Sub.refl S
  ·split
   ·exact Sub.refl S
   ·rename_i p q im h
    split
    ·exact(Sub.run P f _ x k ag _).trans (Sub.nT P S x (1 - k) im _)
    ·exact Sub.refl S
def fI (S:Sm) (id:Int):Prop:=∃(x:Nat) (M:BM) (e:dn),S[x]?=some M∧e∈M.I∧e.id=id
theorem Sub.stands (h:Sub S' S) (hs:fI S' id):fI S id:=by
 obtain⟨x,M,e,D,I,J⟩:=hs;obtain⟨O,e0,h4,h5,h6⟩:=h.aK x M e D I;exact⟨x,O,e0,h4,h5,h6.trans J⟩
theorem Md {k:Nat} {i:Int} (h:fI (oW S x k id p q) i):i=id\/fI S i:=by
 obtain⟨y,N,e,D,J,I⟩:=h;unfold oW at D
 split at D
 ·rename_i M hM
  rcases nX D with⟨rfl,rfl⟩|⟨_,D⟩
  ·rcases Co J with⟨O,_⟩|⟨e0,O,h5,_⟩
   ·exact .inl (by rw[<-I,O])
   ·exact .inr ⟨y,M,e0,hM,O,h5.trans I⟩
  ·exact .inr ⟨y,N,e,D,J,I⟩
 ·exact .inr ⟨y,N,e,D,J,I⟩
theorem dR.uniq (h:dR w G R s P S) {y:Nat} {N:BM} (hM:S[x]?=some M) (he:e∈M.I) (hN:S[y]?=some N) (D:e'∈N.I) (J:e.id=e'.id):x=y:=by
 obtain⟨C,O,_⟩:=h;have a:=O.fw x M e hM he;have b:=O.fw y N e' hN D;rw[J,b] at a;injection a with a;injection a with _ a;omega
theorem dR.cnt (h:dR w G R s P S):cK S<=250:=by
 obtain⟨C,D,_⟩:=h;exact D.cnt
theorem dR.JH (h:dR w G R s P S) (J:S[x]?=some M):EE M:=by
 obtain⟨C,O,_⟩:=h;have I:x<P.count:=by rw[<-O.sn];exact(az.1 J).1
 obtain⟨b,M',_,D,h5⟩:=O.book I;rw[J] at D;injection D with D;subst D;exact h5.ok
theorem UE (h:dR w G R s P S) (D:S[x]?=some M) (he:e∈M.I):¬fI (cutAt S x e.id e.aw) e.id/\cK (cutAt S x e.id e.aw)+1=cK S:=by
 have hb:=h.JH D;rw[nS D];constructor
 ·rintro⟨y,N,e',J,O,h3⟩
  rcases nX J with⟨rfl,rfl⟩|⟨ax,J⟩
  ·rw[iI] at O
   exact yJ hb.nd he rfl (cM _) e' O h3
  ·exact ax (h.uniq J O D he h3)
 ·have h4:=lB D (M.cut e.id e.aw)
  have h5:=Ae hb.nd he rfl (cM e.aw);rw[<-iI] at h5;omega
structure vJ where
 m:Mk
 own:Int→Option Int
 on:Nat
def vJ.new (P:PD):vJ:=⟨Mk.new P,fun _=>none,0⟩
def gw (s:Int) (b:List UInt8):bN×Nat:=if s<0∨8≤s then (bN.zero,1) else zF b
def Mf (S:Sm):List Int:=S.flatMap fun M=>M.I.map (·.id)
def ya (G:vJ) (s:Int):Nat:=((Mf G.m.S).filter fun id=>(G.own id).getD 0==s).length
structure sN where
 Zi:Int
 r:ir
def Mg (s id fy:Int):List sN:=[⟨s,⟨2,id,0,0,0,0,0,fy⟩⟩]
def CP (own:Int→Option Int) (s:Int) (r:ir):Int→Option Int:=if r.kind=1 then fun y=>if y=r.id then some s else own y else own
def TJ (own:Int→Option Int) (on:Nat) (r:ir):Nat:=if r.kind=1 then (if (own r.id).isSome then on else on+1) else on
def XW (own:Int→Option Int) (s:Int) (r:ir):Int:=if r.kind=2 then s else (own r.id).getD 0
def mQ (s:Int):(Int→Option Int)×Nat→List ir→(Int→Option Int)×Nat
 |o,[]=>o
 |o,r::l=>mQ s (CP o.1 s r,TJ o.1 o.2 r) l
def qI (s:Int):(Int→Option Int)→List ir→List sN
 |_,[]=>[]
 |own,r::l=>⟨XW (CP own s r) s r,r⟩::qI s (CP own s r) l
def yb (P:PD) (G:vJ) (s:Int) (b:List UInt8):vJ×List sN:=
 if (gw s b).2≠0 then (G,Mg s 0 (gw s b).2)
 else if (gw s b).1.kind=1∧64≤ya G s then (G,Mg s (gw s b).1.id 30)
 else if (gw s b).1.kind≠1∧G.own (gw s b).1.id≠some s then (G,Mg s (gw s b).1.id 26)
 else
  (⟨(pC P G.m (gw s b).1).1,(mQ s (G.own,G.on) (pC P G.m (gw s b).1).2).1,(mQ s (G.own,G.on) (pC P G.m (gw s b).1).2).2⟩,qI s G.own (pC P G.m (gw s b).1).2)
theorem FE (s:Int):∀(l:List ir) (o:(Int->Option Int)×Nat) (r:ir),mQ s o (l++[r])=(CP (mQ s o l).1 s r,TJ (mQ s o l).1 (mQ s o l).2 r)
 |[],o,r=>rfl
 |x::l,o,r=>FE s l _ r
theorem FF (s:Int):∀(l:List ir) (o:(Int->Option Int)×Nat) (r:ir),qI s o.1 (l++[r])=qI s o.1 l++[⟨XW (CP (mQ s o l).1 s r) s r,r⟩]
 |[],o,r=>rfl
 |x::l,o,r=>by
  have:=FF s l (CP o.1 s x,TJ o.1 o.2 x) r;simp only[fO,qI,mQ] at this⊢;rw[this]
theorem WJ (own:Int->Option Int) (on:Nat) (r:ir):TJ own on r<=on+1:=by
 unfold TJ
 repeat' split
 all_goals omega
theorem JL (s:Int):∀(l:List ir) (o:(Int->Option Int)×Nat),(mQ s o l).2<=o.2+l.length
 |[],o=>by simp[mQ]
 |x::l,o=>by
  have D:=JL s l (CP o.1 s x,TJ o.1 o.2 x);have I:=WJ o.1 o.2 x;simp only[mQ,bI] at D⊢;omega
theorem pk (s:Int):∀(l:List ir) (own:Int->Option Int),(qI s own l).length=l.length
 |[],own=>rfl
 |x::l,own=>by simp[qI,pk s l]
theorem yR {k:Nat}:∀{es:List dn} {cs:List Int} {f:fG},f∈dC x k p es cs->∃e∈es,f.id=e.id
 |e::es,c::cs,f,h=>by
  unfold dC at h
  split at h
  ·rcases a9.1 h with rfl|h
   ·exact⟨e,bT,rfl⟩
   ·obtain⟨e',D,I⟩:=yR h
    exact⟨e',by simp[D],I⟩
  ·obtain⟨e',D,I⟩:=yR h
   exact⟨e',by simp[D],I⟩
 |[],cs,f,h=>by cases cs<;>simp[dC] at h
 |e::es,[],f,h=>by simp[dC] at h
theorem yS {k:Nat} {f:fG} (h:f∈(bM P S x k q).2):fI S f.id:=by
 unfold bM at h
 split at h
 ·cases h
 ·rename_i M D
  split at h
  ·cases h
  ·rename_i r l hs
   obtain⟨e,I,J⟩:=yR h;exact⟨x,M,e,D,fX (k:=k) (by rw[hs];simp) I,J.symm⟩
theorem Mj {k:Nat} {f:fG} (h:f∈(dA P S x k im t).2):fI S f.id:=by
 unfold dA at h
 split at h
 ·exact yS h
 ·rcases aJ.1 h with h|h
  ·exact yS h
  ·exact(Sub.nr P S _ _ _).stands (yS h)
theorem NN (P:PD):∀(f:Nat) (S:Sm) (x k:Nat) (ag aw:Int) {st:jz} {y:fG},st∈(dV P f S x k ag aw).2.1->y∈st.U->fI S y.id
 |0,S,x,k,ag,aw,st,y,h,D=>by simp[dV] at h
 |f+1,S,x,k,ag,aw,st,y,h,D=>by
  unfold dV at h
  split at h
  ·simp at h
  ·split at h
   ·simp at h
   ·split at h
    ·rcases a9.1 h with rfl|h
     ·exact Mj D
     ·exact(Sub.nT P S _ _ _ _).stands (NN P f _ x k ag _ h D)
    ·simp at h
theorem JP {r r':ir} (h:r'∈lz P st r):r'.id=r.id:=by
 unfold lz nW at h
 split at h
 ·simp at h;rw[h]
 ·simp at h
  rcases h with rfl|rfl|rfl<;>rfl
theorem SL {k:Nat} {left:Int} {r:ir} (h:r∈nH P id x k st left):r.id=id\/∃y∈st.U,r.id=y.id:=by
 unfold nH at h;rcases aJ.1 h with h|h
 ·obtain⟨y,D,I⟩:=dD.1 h
  exact .inr ⟨y,D,JP I⟩
 ·exact .inl (JP h)
theorem FG {k:Nat}:∀{l:List jz} {left:Int} {r:ir},r∈kj P id x k l left->r.id=id\/∃st∈l,∃y∈st.U,r.id=y.id
 |[],left,r,h=>by simp[kj] at h
 |st::l,left,r,h=>by
  unfold kj at h;rcases aJ.1 h with h|h
  ·rcases SL h with h|⟨y,D,I⟩
   ·exact .inl h
   ·exact .inr ⟨st,bT,y,D,I⟩
  ·rcases FG h with h|⟨J,O,y,D,I⟩
   ·exact .inl h
   ·exact .inr ⟨J,by simp[O],y,D,I⟩
theorem FH {k:Nat} {r:ir} (h:r∈(iE P m id x k ag aw time).2):r.id=id\/fI m.S r.id:=by
 have key:∀r,r∈(⟨1,id,x,(k:Int)+1,ag,aw,aw,0⟩:ir)::kj P id x k (dV P aw.toNat m.S x k ag aw).2.1 aw->r.id=id\/fI m.S r.id:=fun r h=>by
  rcases a9.1 h with rfl|h
  ·exact .inl rfl
  ·rcases FG h with h|⟨st,D,y,I,J⟩
   ·exact .inl h
   ·exact .inr (J▸NN P _ _ _ _ _ _ D I)
 unfold iE at h;simp only at h
 split at h
 ·exact key r h
 ·split at h
  ·exact key r h
  ·rcases aJ.1 h with h|h
   ·exact key r h
   ·simp at h;rw[h];exact .inl rfl
theorem yd {fy:Int} {r:ir} (h:r∈mH id fy):r.id=id:=by simp[mH] at h;rw[h]
theorem WL {c:bN} {r:ir} (h:r∈(pC P m c).2):r.id=c.id\/fI m.S r.id:=by
 unfold pC at h
 split at h
 ·exact .inl (yd h)
 ·split at h
  ·unfold lW at h
   simp only at h
   repeat' split at h
   all_goals first
    |exact .inl (yd h)
    |exact FH h
  ·split at h
   ·exact .inl (yd h)
   ·rename_i x k p e hf
    split at h
    ·unfold replaceM at h
     simp only at h
     repeat' split at h
     ·exact .inl (yd h)
     ·simp[jh] at h;rw[h];exact .inl rfl
     ·exact .inl (yd h)
     ·rcases aJ.1 h with h|h
      ·simp[dG] at h;rw[h];exact .inl rfl
      ·rcases FH h with h|h
       ·exact .inl h
       ·exact .inr ((Sub.cutAt _ _ _ _).stands h)
    ·split at h
     ·simp[dG] at h;rw[h];exact .inl rfl
     ·simp[jh] at h;rw[h];exact .inl rfl
def pY (k:Nat) (l:List Qt):mE×Bool:=match nF k l with
 |none=>(⟨0,0,0⟩,false)
 |some b=>(⟨b.ag,l.foldl (fun a q=>if q.ag=b.ag then max a q.aw else a) b.aw,((l.filter fun q=>q.ag==b.ag).length:Int)⟩,true)
structure Ml where
 lv:List mE
 im:mE
 has:Bool
def Ml.zero:Ml:=⟨[],⟨0,0,0⟩,false⟩
abbrev vZ:=List (Ml×Ml)
def kK (P:PD) (S:Sm) (x k:Nat):Ml:=
 ⟨match S[x]? with|some M=>(M.side k).map vH|none=>[],(pY k (iq P (lU S) x k)).1,(pY k (iq P (lU S) x k)).2⟩
def kN (P:PD) (S:Sm):vZ:=(List.range P.count).map fun x=>(kK P S x 0,kK P S x 1)
def VV (a b:mE):Bool:=a.ag==b.ag && a.aw==b.aw && a.count==b.count
def je (k:Nat):List mE→List mE→Nat
 |[],ys=>ys.length
 |x::xs,ys=>aux x xs ys
where
 aux (x:mE) (xs:List mE):List mE→Nat
 |[]=>xs.length+1
 |y::ys=>if bz k x.ag y.ag=true then 1+je k xs (y::ys) else if bz k y.ag x.ag=true then 1+aux x xs ys else (if VV x y=true then 0 else 1)+je k xs ys
def jR (k:Nat) (a b:Ml):Nat:=je k a.lv b.lv+if VV a.im b.im=true∧a.has=b.has then 0 else 1
def wj (a b:vZ):Nat:=((a.zip b).map fun x=>jR 0 x.1.1 x.2.1+jR 1 x.1.2 x.2.2).sum
structure Tf where
 zx:Bool
 a:Int
 b:Int
 d:Int
structure Tf.Ok (T:Tf):Prop where
 a1:1≤T.a
 b1:1≤T.b
def Tf.pr (T:Tf) (p:Int):Int:=if T.zx=true then -(T.a*p) else T.a*p
def Tf.k (T:Tf) (k:Nat):Nat:=if T.zx=true then 1 - k else k
def Tf.aK (T:Tf) (e:dn):dn:=⟨e.id+T.d,T.b*e.aw,e.top⟩
def Tf.lvl (T:Tf) (r:iQ):iQ:=(T.pr r.1,r.2.map T.aK)
def Tf.bm (T:Tf) (M:BM):BM:=if T.zx=true then ⟨M.s1.map T.lvl,M.s0.map T.lvl⟩ else ⟨M.s0.map T.lvl,M.s1.map T.lvl⟩
def Tf.sm (T:Tf) (S:Sm):Sm:=S.map T.bm
section
variable {T:Tf}
theorem p8 {x:Int} (ha:1<=a):a*x<a*y↔x<y:=⟨fun h=>Int.lt_of_mul_lt_mul_left h ae,fun h=>Int.mul_lt_mul_of_pos_left h ae⟩
theorem fU {x:Int} (ha:1<=a):a*x<=a*y↔x<=y:=cA (p8 (x:=y) (y:=x) ha)
theorem sP {x:Int} (ha:1<=a):a*x=a*y↔x=y:=by
 have D:=fU (x:=x) (y:=y) ha;have I:=fU (x:=y) (y:=x) ha;omega
theorem Tf.Ai (k:Nat):T.k (1 - k)=1 - T.k k:=by unfold Tf.k;split<;>omega
theorem Tf.VX (h:T.Ok) {x:Int}:T.pr x=T.pr y↔x=y:=by
 have:=sP (x:=x) (y:=y) h.a1;unfold Tf.pr;split<;>omega
theorem Tf.qK (h:T.Ok) {x:Int}:T.pr x<T.pr y↔if T.zx=true then y<x else x<y:=by
 have D:=p8 (x:=x) (y:=y) h.a1;have I:=p8 (x:=y) (y:=x) h.a1;unfold Tf.pr;split<;>omega
theorem Tf.better (h:T.Ok) (k:Nat) (O:k<2) (x y:Int):bz (T.k k) (T.pr x) (T.pr y)=bz k x y:=by
 have D:=T.qK h (x:=x) (y:=y);have I:=T.qK h (x:=y) (y:=x);unfold bz Tf.k
 cases hm:T.zx
 ·rw[hm] at D I
  simp only[dm,if_false] at D I⊢;simp only[D,I]
 ·rw[hm] at D I
  simp only[if_true] at D I⊢;have J:k=0\/k=1:=ae;rcases J with rfl|rfl<;>simp[D,I]
theorem Tf.US (h:T.Ok) (k:Nat) (O:k<2) (x y:Int):lp (T.k k) (T.pr x) (T.pr y)=lp k x y:=by
 have D:=T.qK h (x:=x) (y:=y);have I:=T.qK h (x:=y) (y:=x);unfold lp Tf.k
 cases hm:T.zx
 ·rw[hm] at D I
  simp only[dm,if_false] at D I⊢;have e1:T.pr y<=T.pr x↔y<=x:=ae;have e2:T.pr x<=T.pr y↔x<=y:=ae;simp only[e1,e2]
 ·rw[hm] at D I
  simp only[if_true] at D I⊢;have e1:T.pr y<=T.pr x↔x<=y:=ae;have e2:T.pr x<=T.pr y↔y<=x:=ae;have J:k=0\/k=1:=ae;rcases J with rfl|rfl<;>simp[e1,e2]
theorem Tf.side (M:BM) (k:Nat):(T.bm M).side (T.k k)=(M.side k).map T.lvl:=by
 unfold BM.side Tf.bm Tf.k
 cases hm:T.zx
 ·simp only[dm,if_false]
  split<;>rfl
 ·simp only[if_true]
  by_cases D:k=0
  ·subst D;simp
  ·have:1 - k=0:=ae
   simp[this,D]
theorem Tf.Zp (l:List iQ):yx (l.map T.lvl)=(yx l).map T.lvl:=by
 unfold yx;rw[di,di];refine cJ fun r _=>?_;simp only[Function.comp,Tf.lvl,di,Prod.mk.injEq,true_and];rfl
theorem Tf.put (h:T.Ok) (k:Nat) (J:k<2) (p:Int) (e:dn):∀l:List iQ,mo (T.k k) (l.map T.lvl) (T.pr p) (T.aK e)=(mo k l p e).map T.lvl
 |[]=>by simp[mo,Tf.lvl]
 |r::l=>by
  have ih:=Tf.put h k J p e l;simp only[aW,mo];have hb:bz (T.k k) (T.lvl r).1 (T.pr p)=bz k r.1 p:=T.better h k J r.1 p;rw[hb]
  by_cases D:bz k r.1 p=true
  ·rw[if_pos D,if_pos D,ih];rfl
  ·rw[if_neg D,if_neg D]
   have O:(T.lvl r).1=T.pr p↔r.1=p:=T.VX h
   by_cases I:r.1=p
   ·rw[if_pos I,if_pos (O.2 I)]
    simp[Tf.lvl,cx]
   ·rw[if_neg I,if_neg (fun e=>I (O.1 e))]
    simp[Tf.lvl]
theorem Tf.ld (h:T.Ok) (k:Nat) (D:k<2) (l:List iQ) (p:Int):Kd (T.k k) (l.map T.lvl) (T.pr p)=Kd k l p:=by
 cases l with
 |nil=>rfl
 |cons r l=>exact T.better h k D p r.1
theorem Tf.stand (h:T.Ok) (k:Nat) (I:k<2) (l:List iQ) (id p q:Int):jo (T.k k) (l.map T.lvl) (id+T.d) (T.pr p) (T.b*q)=(jo k l id p q).map T.lvl:=by
 unfold jo;rw[T.ld h k I];have he:(⟨id+T.d,T.b*q,Kd k l p⟩:dn)=T.aK ⟨id,q,Kd k l p⟩:=rfl;rw[he]
 by_cases D:Kd k l p=true
 ·rw[if_pos D,if_pos D,T.Zp,T.put h k I]
 ·rw[if_neg D,if_neg D,T.put h k I]
theorem Tf.add (h:T.Ok) (M:BM) (k:Nat) (O:k<2) (id p q:Int):(T.bm M).add (T.k k) (id+T.d) (T.pr p) (T.b*q)=T.bm (M.add k id p q):=by
 have D:=fun l=>T.stand h 0 ae l id p q;have I:=fun l=>T.stand h 1 ae l id p q;unfold BM.add Tf.bm;unfold Tf.k at D I⊢;have J:k=0\/k=1:=ae
 cases hm:T.zx
 ·simp only[hm,dm,if_false] at D I⊢
  rcases J with rfl|rfl<;>simp[D,I]
 ·simp only[hm,if_true] at D I⊢
  rcases J with rfl|rfl
  ·have:=D M.s0;simp at this⊢;exact this
  ·have:=I M.s1;simp at this⊢;exact this
theorem Tf.XZ (h:T.Ok) (id q:Int) (e:dn):fS (id+T.d) (T.b*q) (T.aK e)=(fS id q e).map T.aK:=by
 unfold fS;have e1:(T.aK e).id=id+T.d↔e.id=id:=by show e.id+T.d=id+T.d↔_;omega
 have e2:(T.aK e).aw<=T.b*q↔e.aw<=q:=fU h.b1
 by_cases D:e.id=id
 ·rw[if_pos D,if_pos (e1.2 D)]
  by_cases I:e.aw<=q
  ·rw[if_pos I,if_pos (e2.2 I)];rfl
  ·rw[if_neg I,if_neg (fun e=>I (e2.1 e))]
   simp[Tf.aK,ku]
 ·rw[if_neg D,if_neg (fun e=>D (e1.1 e))];rfl
theorem filterMap_map {l:List dn} {t:dn->dn} (h:∀e,g (t e)=(f e).map t):(l.map t).filterMap g=(l.filterMap f).map t:=by
 induction l with
 |nil=>rfl
 |cons e l D=>
  rw[aW,dr,dr,h e]
  cases f e with
  |none=>exact D
  |some x=>simp[D]
theorem Tf.X0 (h:T.Ok) (id q:Int) (l:List iQ):kZ (id+T.d) (T.b*q) (l.map T.lvl)=(kZ id q l).map T.lvl:=by
 unfold kZ;rw[di];have e:(l.map ((yy (id+T.d) (T.b*q))∘T.lvl))=(l.map (yy id q)).map T.lvl:=by
  rw[di];refine cJ fun r _=>?_;show(T.pr r.1,_)=(T.pr r.1,_);rw[Prod.mk.injEq];exact⟨rfl,filterMap_map (T.XZ h id q)⟩
 rw[e]
 generalize l.map (yy id q)=m
 induction m with
 |nil=>rfl
 |cons r m D=>
  rw[aW,gN,gN,D];have:(T.lvl r).2.isEmpty=r.2.isEmpty:=by show(r.2.map T.aK).isEmpty=_;cases r.2<;>rfl
  rw[this]
  split<;>simp
theorem Tf.cut (h:T.Ok) (M:BM) (id q:Int):(T.bm M).cut (id+T.d) (T.b*q)=T.bm (M.cut id q):=by
 unfold BM.cut Tf.bm
 cases hm:T.zx<;>simp[T.X0 h]
theorem Tf.Zv (h:T.Ok) (L:List dn):mq (L.map T.aK)=T.b*mq L:=by
 unfold mq
 induction L with
 |nil=>simp
 |cons e L D=>
  simp only[aW,cN,D,zN];rfl
def Tf.tp (T:Tf) (x:Int×Int):Int×Int:=(T.pr x.1,T.b*x.2)
theorem Tf.top (h:T.Ok) (M:BM) (k:Nat):yG (T.bm M) (T.k k)=(yG M k).map T.tp:=by
 unfold yG;rw[T.side]
 cases M.side k with
 |nil=>rfl
 |cons r l=>simp[Tf.tp,Tf.lvl,T.Zv h]
theorem Tf.WO (h:T.Ok) (S:Sm) (x k:Nat):lU (T.sm S) x (T.k k)=(lU S x k).map T.tp:=by
 unfold lU Tf.sm;rw[bo]
 cases S[x]? with
 |none=>rfl
 |some M=>exact T.top h M k
def Tf.qt (T:Tf) (q:Qt):Qt:=⟨T.pr q.ag,T.b*q.aw,q.i0,T.k q.k0,q.i1,T.k q.k1⟩
theorem GS {b x:Int} (I:1<=b):min (b*x) (b*y)=b*min x y:=by
 have:=fU (x:=x) (y:=y) I
 by_cases D:x<=y
 ·rw[Int.min_eq_left D,Int.min_eq_left (this.2 D)]
 ·rw[Int.min_eq_right ae,Int.min_eq_right ae]
theorem Tf.YS (h:T.Ok) {tp:kJ} (I:∀x k,tp' x (T.k k)=(tp x k).map T.tp) (a D b kb:Nat) (less:Bool):xe tp' a (T.k D) b (T.k kb) less=(xe tp a D b kb less).map T.qt:=by
 unfold xe;rw[I,I]
 cases tp a D with
 |none=>cases tp b kb<;>rfl
 |some x=>
  cases tp b kb with
  |none=>rfl
  |some y=>
   simp only[fc,gf];unfold Tf.qt Tf.tp;simp only[Qt.mk.injEq,and_true,true_and];refine⟨?_,GS h.b1⟩
   cases less
   ·simp only[dm,if_false]
    unfold Tf.pr;split<;>rw[zN]<;>omega
   ·simp only[if_true]
    unfold Tf.pr;split<;>rw[ku]<;>omega
theorem wk {α β γ:Type} {l:List α} {f:α->Option β} {g:α->Option γ} {t:β->γ} (h:∀e∈l,g e=(f e).map t):l.filterMap g=(l.filterMap f).map t:=by
 induction l with
 |nil=>rfl
 |cons e l D=>
  rw[dr,dr,h e bT,D fun e he=>h e (by simp[he])]
  cases f e with
  |none=>rfl
  |some x=>simp
theorem Tf.all (h:T.Ok) {tp:kJ} (D:∀x k,tp' x (T.k k)=(tp x k).map T.tp) (n x k:Nat):mG n tp' x (T.k k)=(mG n tp x k).map T.qt:=by
 unfold mG
 by_cases hx:x<n
 ·rw[if_pos hx,if_pos hx,cx,<-T.Ai]
  congr 1
  ·exact wk fun j _=>T.YS h D _ _ _ _ _
  ·exact wk fun j _=>T.YS h D _ _ _ _ _
 ·rw[if_neg hx,if_neg hx,<-T.Ai,T.YS h D]
  cases xe tp (cy n x).2 (1 - k) (cy n x).1 k true<;>rfl
theorem Tf.YT (h:T.Ok) (k:Nat) (I:k<2) (l:List Qt):nF (T.k k) (l.map T.qt)=(nF k l).map T.qt:=by
 cases l with
 |nil=>rfl
 |cons q l=>
  show some _=some _
  congr 1
  have:∀(l:List Qt) (b:Qt),(l.map T.qt).foldl (fun b q=>if bz (T.k k) q.ag b.ag=true then q else b) (T.qt b)=T.qt (l.foldl (fun b q=>if bz k q.ag b.ag=true then q else b) b):=by
   intro l
   induction l with
   |nil=>intro b;rfl
   |cons q l D=>
    intro b;rw[aW,MW,MW];have J:bz (T.k k) (T.qt q).ag (T.qt b).ag=bz k q.ag b.ag:=T.better h k I _ _;rw[J]
    split
    ·exact D q
    ·exact D b
  exact this (q::l) q
structure Tf.Pr (T:Tf) (P P':PD):Prop where
 n:P'.n=P.n
 tick:P'.tick=T.a*P.tick
 lo:∀x,P'.lo x=if T.zx=true then T.pr (P.hi x) else T.pr (P.lo x)
 hi:∀x,P'.hi x=if T.zx=true then T.pr (P.lo x) else T.pr (P.hi x)
 low:P'.low=P'.lo 0
 high:P'.high=P'.hi 0
 X2:P.low=P.lo 0
 VY:P.high=P.hi 0
 lh:P.low≤P.high
 settle:∀j,P'.settle.getD j 0=T.pr (P.settle.getD j 0)
 rule:P'.rule=P.rule
 top:P'.top=P.top
 least:P'.least=P.least
 part:P'.part=P.part
 first:T.b=1∨P.rule=1
 wide:∀x,P.n≤x→x<P.count→P.lo x= -P.wide∧P.hi x=P.wide
 t1:1≤P.tick
theorem Tf.count (D:T.Pr P P'):P'.count=P.count:=by unfold PD.count;rw[D.n]
theorem Tf.dvd (h:T.Ok) (D:T.Pr P P') (p:Int):T.pr p % P'.tick=0↔p % P.tick=0:=by
 rw[D.tick];have I:T.a*p % (T.a*P.tick)=T.a*(p % P.tick):=Int.mul_emod_mul_of_pos _ _ (cA h.a1);have J:T.a*(p % P.tick)=0↔p % P.tick=0:=by
  have:=sP (x:=p % P.tick) (y:=0) h.a1;rw[iN] at this;exact this
 have O:T.pr p % (T.a*P.tick)=0↔T.a*p % (T.a*P.tick)=0:=by
  unfold Tf.pr
  split
  ·rw[<-TH,<-TH,Kk]
  ·exact Iff.rfl
 rw[O,I,J]
theorem Tf.fy (h:T.Ok) (D:T.Pr P P') (x:Nat) (p:Int):P'.fy x (T.pr p)=P.fy x p:=by
 unfold PD.fy;have h1:(T.pr p % P'.tick≠0)=(p % P.tick≠0):=by
  have:=T.dvd h D p;exact propext (not_congr this)
 have h2:=D.lo x;have h3:=D.hi x;have a1:=T.qK h (x:=p) (y:=P.lo x);have I:=T.qK h (x:=P.lo x) (y:=p);have J:=T.qK h (x:=p) (y:=P.hi x);have O:=T.qK h (x:=P.hi x) (y:=p);have h5:(T.pr p<P'.lo x\/P'.hi x<T.pr p)=(p<P.lo x\/P.hi x<p):=by
  rw[h2,h3];refine propext ?_
  cases hm:T.zx
  ·rw[hm] at a1 O
   simp only[dm,if_false] at a1 O⊢;rw[a1,O]
  ·rw[hm] at I J
   simp only[if_true] at I J⊢;rw[I,J];exact Or.comm
 simp only[h1,h5]
theorem Tf.oY (h:T.Ok) (D:T.Pr P P') (x p:Int):P'.oY x (T.pr p)=P.oY x p:=by
 unfold PD.oY;rw[Tf.count D,T.fy h D]
theorem Tf.WQ (h:T.Ok) (D:T.Pr P P') {tp:kJ} (I:∀x k,tp' x (T.k k)=(tp x k).map T.tp) (x k:Nat):iq P' tp' x (T.k k)=(iq P tp x k).map T.qt:=by
 unfold iq;rw[D.n,T.all h I]
 generalize mG P.n tp x k=l
 induction l with
 |nil=>rfl
 |cons q l J=>
  rw[aW,gN,gN,J];have:(P'.fy x (T.qt q).ag==0)=(P.fy x q.ag==0):=by rw[show(T.qt q).ag=T.pr q.ag from rfl,T.fy h D]
  rw[this]
  split<;>simp
def Tf.nx (T:Tf) (o:Int×Int×Option Qt):Int×Int×Option Qt:=(T.pr o.1,T.b*o.2.1,o.2.2.map T.qt)
theorem Tf.next (h:T.Ok) (I:T.Pr P P') (S:Sm) (x k:Nat) (D:k<2):jZ P' (T.sm S) x (T.k k)=(jZ P S x k).map T.nx:=by
 unfold jZ;rw[T.WO h,T.WQ h I (tp:=lU S) (fun x k=>T.WO h S x k),T.YT h k D]
 cases lU S x k with
 |none=>
  cases nF k (iq P (lU S) x k) with
  |none=>rfl
  |some q=>rfl
 |some r=>
  cases nF k (iq P (lU S) x k) with
  |none=>rfl
  |some q=>
   simp only[fc];have J:bz (T.k k) (T.qt q).ag (T.tp r).1=bz k q.ag r.1:=T.better h k D _ _;rw[J]
   split<;>rfl
end
section
variable {T:Tf}
theorem zy {b:Int} (D:1<=b):∀(l:List Int) (q:Int),cD (l.map (b*·)) (b*q)=(cD l q).map (b*·)
 |[],q=>rfl
 |n::l,q=>by
  simp only[aW,cD];rw[GS D,<-ku,zy D l]
theorem FL (b:Int):∀l:List Int,(l.map (b*·)).sum=b*l.sum
 |[]=>bT
 |n::l=>by simp only[aW,cN,FL b l,zN]
theorem GU {b:Int} (D:1<=b) (hc:b*c<=1000000) {l:List Int} (O:∀n∈l,1<=n/\n<=c) (q:Int):eh (l.map (b*·)) (b*q)=eh l q:=by
 have h1:(l.map (b*·)).all TQ=true:=fN.2 fun x hx=>by
  obtain⟨n,hn,rfl⟩:=aV.1 hx;obtain⟨I,J⟩:=O n hn;have h4:=(fU (a:=b) (x:=1) (y:=n) D).2 I;have h5:=(fU (a:=b) (x:=n) (y:=c) D).2 J;exact(uR _).2 ⟨ae,ae⟩
 have I:l.all TQ=true:=fN.2 fun n hn=>by
  obtain⟨I,J⟩:=O n hn;have h5:=(fU (a:=b) (x:=n) (y:=c) D).2 J;have h6:1*n<=b*n:=Int.mul_le_mul_of_nonneg_right D ae;exact(uR _).2 ⟨I,ae⟩
 have J:(0<=b*q)↔0<=q:=by
  have:=fU (a:=b) (x:=0) (y:=q) D;rw[iN] at this;exact this
 have h4:(b*q<=b*l.sum)↔q<=l.sum:=fU D;unfold eh;rw[h1,I,FL,br];simp only[J,h4]
theorem JS (f:dn->Ord) (g:dn->Ord) (h:∀e,(f e).top=(g e).top):∀l:List dn,td (l.map f)=td (l.map g)
 |[]=>rfl
 |e::l=>by simp only[aW,td,h e,JS f g h l]
structure SB (c:Int) (S:Sm):Prop where
 q:∀M∈S,∀e∈M.I,1≤e.aw∧e.aw≤c
 ne:∀M∈S,∀k,∀r∈M.side k,r.2≠[]
theorem SB.at_ (h:SB c S) (D:S[x]?=some M) {k:Nat} (hr:r∈M.side k):r.2≠[]/\∀e∈r.2,1<=e.aw/\e.aw<=c:=
 ⟨h.ne M (aH D) k r hr,fun e he=>h.q M (aH D) e (fX hr he)⟩
theorem Tf.shares (h:T.Ok) (D:T.Pr P P') (hc:T.b*c<=1000000) (k:Nat) (r:iQ) (hr:∀e∈r.2,1<=e.aw/\e.aw<=c) (q:Int):mA P' (T.k k) (T.lvl r) (T.b*q)=(mA P k r q).map (T.b*·):=by
 unfold mA kg;rw[D.rule,D.top,D.least,D.part];have e1:lT ((T.lvl r).2.map (kB ((T.k k:Nat)+1) (T.lvl r).1))=(lT (r.2.map (kB ((k:Int)+1) r.1))).map (T.b*·):=by
  unfold lT Tf.lvl;simp only[di];rfl
 have e2:td ((T.lvl r).2.map (kB ((T.k k:Nat)+1) (T.lvl r).1))=td (r.2.map (kB ((k:Int)+1) r.1)):=by
  unfold Tf.lvl;simp only[di];exact JS (kB ((T.k k:Nat)+1) (T.pr r.1)∘T.aK) (kB ((k:Int)+1) r.1) (fun _=>rfl) r.2
 rw[e1,e2];rcases D.first with I|hf
 ·have J:∀l:List Int,l.map (T.b*·)=l:=fun l=>by rw[I];simp
  rw[J,I,qW];simp
 ·rw[if_pos hf,if_pos hf]
  unfold yo;rw[GU h.b1 hc (fun n hn=>by
   unfold lT at hn;rw[di] at hn;obtain⟨e,he,rfl⟩:=aV.1 hn;exact hr e he) q]
  split
  ·exact zy h.b1 _ _
  ·rfl
def Tf.fill (T:Tf) (f:fG):fG:=⟨f.id+T.d,f.inst,T.k f.k,T.pr f.ag,T.b*f.aw,T.b*f.left⟩
theorem mul_pos_iff {b:Int} (D:1<=b):0<b*c↔0<c:=by
 have:=p8 (a:=b) (x:=0) (y:=c) D;rw[iN] at this;exact this
theorem Tf.U (h:T.Ok) (x k:Nat) (p:Int):∀(es:List dn) (cs:List Int),dC x (T.k k) (T.pr p) (es.map T.aK) (cs.map (T.b*·))=(dC x k p es cs).map T.fill
 |e::es,c::cs=>by
  have D:=Tf.U h x k p es cs;simp only[aW,dC];rw[D]
  by_cases hc:0<c
  ·rw[if_pos hc,if_pos ((mul_pos_iff h.b1).2 hc)]
   simp[Tf.fill,Tf.aK,ku]
  ·rw[if_neg hc,if_neg (fun e=>hc ((mul_pos_iff h.b1).1 e))]
 |[],cs=>by cases cs<;>simp[dC]
 |e::es,[]=>by simp[dC]
theorem Tf.CL (h:T.Ok):∀(es:List dn) (cs:List Int) (M:BM),ja (T.bm M) (es.map T.aK) (cs.map (T.b*·))=T.bm (ja M es cs)
 |e::es,c::cs,M=>by
  simp only[aW,ja];rw[<-Tf.CL h es cs]
  congr 1
  by_cases hc:0<c
  ·rw[if_pos hc,if_pos ((mul_pos_iff h.b1).2 hc)]
   exact T.cut h M e.id c
  ·rw[if_neg hc,if_neg (fun e=>hc ((mul_pos_iff h.b1).1 e))]
 |[],cs,M=>by cases cs<;>simp[ja]
 |e::es,[],M=>by simp[ja]
theorem Tf.at_ (S:Sm) (x:Nat):(T.sm S)[x]?=(S[x]?).map T.bm:=by unfold Tf.sm;exact bo ..
theorem Tf.set (S:Sm) (x:Nat) (M:BM):(T.sm S).set x (T.bm M)=T.sm (S.set x M):=by unfold Tf.sm;exact(Vk ..).symm
theorem Tf.nr (h:T.Ok) (D:T.Pr P P') (hc:T.b*c<=1000000) (hS:SB c S) (x k:Nat) (q:Int):
  bM P' (T.sm S) x (T.k k) (T.b*q)=(T.sm (bM P S x k q).1,(bM P S x k q).2.map T.fill):=by
 unfold bM;rw[T.at_]
 cases I:S[x]? with
 |none=>rfl
 |some M=>
  simp only[fc];rw[T.side]
  cases hs:M.side k with
  |nil=>rfl
  |cons r l=>
   have hr:r∈M.side k:=by rw[hs];simp
   have J:=T.shares h D hc k r (hS.at_ I hr).2 q;simp only[aW];rw[J,show(T.lvl r).2=r.2.map T.aK from rfl,show(T.lvl r).1=T.pr r.1 from rfl,T.CL h,T.U h,T.set]
theorem SB.X6 (hq:∀e∈M.I,1<=e.aw/\e.aw<=c) (id q:Int) (h0:0<=q):∀e∈(M.cut id q).I,1<=e.aw/\e.aw<=c:=fun e he=>by
 rw[iI] at he;obtain⟨D,J,h2,h3,O,h5⟩:=pT he;have h6:=hq D J
 by_cases hi:D.id=id
 ·obtain⟨h7,rfl⟩:=h5 hi
  simp only;omega
 ·rw[O hi];exact h6
theorem UT (h:r∈kZ id q l):r.2≠[]:=by
 unfold kZ at h;have:=(lX.1 h).2;intro e;rw[e] at this;simp at this
theorem Mo {k:Nat} (h:r∈(M.cut id q).side k):r.2≠[]:=by
 rw[rE] at h;exact UT h
def P9 (c:Int) (M:BM):Prop:=(∀e∈M.I,1≤e.aw∧e.aw≤c)∧∀k,∀r∈M.side k,r.2≠[]
theorem P9.cut (h:P9 c M) (id q:Int) (D:0<=q):P9 c (M.cut id q):=⟨SB.X6 h.1 id q D,fun k r hr=>Mo hr⟩
theorem P9.CL:∀(es:List dn) (cs:List Int) (M:BM),P9 c M->P9 c (ja M es cs)
 |e::es,d::cs,M,h=>by
  unfold ja;refine P9.CL es cs _ ?_
  split
  ·exact h.cut _ _ ae
  ·exact h
 |[],cs,M,h=>by cases cs<;>(unfold ja;exact h)
 |e::es,[],M,h=>by unfold ja;exact h
theorem SB.bm (h:SB c S) (D:S[x]?=some M):P9 c M:=⟨h.q M (aH D),h.ne M (aH D)⟩
theorem SB.set (h:SB c S) (x:Nat) (J:P9 c M):SB c (S.set x M):=by
 have key:∀N∈S.set x M,P9 c N:=fun N D=>by
  rcases uO D with I|rfl
  ·exact⟨h.q N I,h.ne N I⟩
  ·exact J
 exact⟨fun N D=>(key N D).1,fun N D=>(key N D).2⟩
theorem SB.nr (h:SB c S) (x k:Nat) (q:Int):SB c (bM P S x k q).1:=by
 unfold bM
 split
 ·exact h
 ·rename_i M D
  split
  ·exact h
  ·exact h.set x ((h.bm D).CL _ _)
theorem SB.nT (h:SB c S) (x k:Nat) (im:Option Qt) (t:Int):SB c (dA P S x k im t).1:=by
 unfold dA
 split
 ·exact h.nr _ _ _
 ·exact(h.nr _ _ _).nr _ _ _
theorem Tf.nT (h:T.Ok) (D:T.Pr P P') (hc:T.b*c<=1000000) (hS:SB c S) (x k:Nat) (im:Option Qt) (t:Int):
  dA P' (T.sm S) x (T.k k) (im.map T.qt) (T.b*t)=(T.sm (dA P S x k im t).1,(dA P S x k im t).2.map T.fill):=by
 unfold dA
 cases im with
 |none=>exact T.nr h D hc hS x k t
 |some q=>
  simp only[fc];rw[show(T.qt q).i0=q.i0 from rfl,show(T.qt q).k0=T.k q.k0 from rfl,show(T.qt q).i1=q.i1 from rfl,show(T.qt q).k1=T.k q.k1 from rfl];rw[T.nr h D hc hS,T.nr h D hc (hS.nr _ _ _),cx]
theorem SB.tp (h:SB c S) {k:Nat} (O:lU S x k=some (p,q)):1<=q:=by
 obtain⟨M,r,l,J,D,h3,h4⟩:=oE O;have I:=h.at_ J (k:=k) (r:=r) (by rw[D];simp);rw[<-h4]
 cases he:r.2 with
 |nil=>exact absurd he I.1
 |cons e es=>
  have:∀es:List dn,(∀e∈es,1<=e.aw)->0<=mq es:=fun es=>by
   induction es with
   |nil=>intro _;simp[mq]
   |cons a es ih=>
    intro ha;have J:=ha a bT;have D:=ih fun e he=>ha e (by simp[he]);simp only[mq,aW,cN] at D⊢;omega
  have h6:=this es fun a ha=>(I.2 a (by rw[he];simp[ha])).1;have h7:=(I.2 e (by rw[he];simp)).1;simp only[mq,aW,cN] at h6⊢;omega
theorem GV {tp:kJ} (D:∀x k p q,tp x k=some (p,q)->1<=q) {a I kb:Nat} {less:Bool} {q:Qt} (h:xe tp a I b kb less=some q):1<=q.aw:=by
 obtain⟨_,_,_,_,p0,q0,p1,q1,J,O,h3,_⟩:=uG h;have:=D _ _ _ _ J;have:=D _ _ _ _ O;omega
theorem SV {tp:kJ} (D:∀x k p q,tp x k=some (p,q)->1<=q) {k:Nat} {q:Qt} (h:q∈mG n tp x k):1<=q.aw:=by
 unfold mG at h
 split at h
 ·rcases aJ.1 h with h|h
  ·obtain⟨j,_,I⟩:=ee.1 h;exact GV D I
  ·obtain⟨j,_,I⟩:=ee.1 h;exact GV D I
 ·cases hm:xe tp (cy n x).2 (1 - k) (cy n x).1 k true with
  |none=>rw[hm] at h;simp at h
  |some q'=>
   rw[hm] at h;simp at h;rw[h];have:=GV D hm;exact this
theorem SB.next (h:SB c S) {k:Nat} (hn:jZ P S x k=some (p,q,im)):1<=q:=by
 unfold jZ at hn;have O:∀q',nF k (iq P (lU S) x k)=some q'->1<=q'.aw:=fun q' J=>SV (fun x k p q=>h.tp) (qF (vt J)).1
 split at hn
 ·rename_i r q' D I
  split at hn
  ·injection hn with hn;injection hn with _ hn;injection hn with hn;rw[<-hn];exact O q' I
  ·injection hn with hn;injection hn with _ hn;injection hn with hn;rw[<-hn];exact h.tp (p:=r.1) (by rw[D])
 ·rename_i r D I
  injection hn with hn;injection hn with _ hn;injection hn with hn;rw[<-hn];exact h.tp (p:=r.1) (by rw[D])
 ·rename_i q' D I
  injection hn with hn;injection hn with _ hn;injection hn with hn;rw[<-hn];exact O q' I
 ·cases hn
def Tf.step (T:Tf) (st:jz):jz:=⟨T.pr st.ag,T.b*st.aw,st.imp,st.U.map T.fill⟩
theorem sQ {f:Nat} {k:Nat} (h:q<=0):dV P f S x k ag q=(S,[],q):=by
 cases f with
 |zero=>rfl
 |succ f=>unfold dV;rw[if_pos h]
theorem Tf.run (h:T.Ok) (hP:T.Pr P P') (hc:T.b*c<=1000000) (x k:Nat) (hk:k<2) (ag:Int):∀(f f':Nat) (S:Sm) (aw:Int),SB c S->aw.toNat<=f->(T.b*aw).toNat<=f'->
  dV P' f' (T.sm S) x (T.k k) (T.pr ag) (T.b*aw)=(T.sm (dV P f S x k ag aw).1,(dV P f S x k ag aw).2.1.map T.step,T.b*(dV P f S x k ag aw).2.2):=by
 intro f
 induction f with
 |zero=>
  intro f' S aw hS h1 h2;have I:aw<=0:=ae;have D:T.b*aw<=0:=by
   have:=fU (a:=T.b) (x:=aw) (y:=0) h.b1;rw[iN] at this;exact this.2 I
  rw[sQ I,sQ D];rfl
 |succ f ih=>
  intro f' S aw hS h1 h2
  by_cases I:aw<=0
  ·have D:T.b*aw<=0:=by
    have:=fU (a:=T.b) (x:=aw) (y:=0) h.b1;rw[iN] at this;exact this.2 I
   rw[sQ I,sQ D];rfl
  ·have D:¬T.b*aw<=0:=fun e=>by
    have:=fU (a:=T.b) (x:=aw) (y:=0) h.b1;rw[iN] at this;exact I (this.1 e)
   obtain⟨J,rfl⟩:∃g,f'=g+1:=⟨f' - 1,ae⟩;unfold dV;rw[if_neg I,if_neg D,<-T.Ai,T.next h hP S x (1 - k) ae]
   cases hn:jZ P S x (1 - k) with
   |none=>rfl
   |some o=>
    obtain⟨p,q,im⟩:=o;simp only[fc,Tf.nx];rw[T.US h k hk];have hq:=hS.next hn
    by_cases hg:lp k ag p=true
    ·rw[if_pos hg,if_pos hg]
     have ht:=T.nT h hP hc hS x (1 - k) im (min aw q);rw[GS h.b1,ht,<-ku];have O:1<=min aw q:=ae;have hm:=(fU (a:=T.b) (x:=1) (y:=min aw q) h.b1).2 O;have ay:=h.b1;have ax:=ih J (dA P S x (1 - k) im (min aw q)).1 (aw - min aw q) (hS.nT _ _ _ _) ae (by rw[ku];omega);rw[ax];simp only[aW]
     cases im<;>rfl
    ·rw[if_neg hg,if_neg hg]
     rfl
end
structure pn (P:PD) (S:Sm):Prop where
 right:P.gZ
 sn:S.length=P.count
 xX:∀(x:Nat) (M:BM),S[x]?=some M→EE M
 pr:∀(x k:Nat) (M:BM) (r:iQ),S[x]?=some M→r∈M.side k→P.fy x r.1=0
 uq:∀(x y:Nat) (M N:BM) (e e':dn),S[x]?=some M→e∈M.I→S[y]?=some N→e'∈N.I→e.id=e'.id→x=y
 cnt:cK S≤250
theorem dR.fine (h:dR w G R s P S):pn P S:=
 ⟨h.right,h.len,fun x M=>h.JH,by obtain⟨C,D,_⟩:=h;exact D.pr,fun x y M N e e' D I J O h5=>h.uniq D I J O h5,h.cnt⟩
theorem NP (id q:Int):∀l:List dn,((l.filterMap (fS id q)).map (·.id)).Sublist (l.map (·.id))
 |[]=>bT
 |e::l=>by
  have D:=NP id q l;rw[dr,aW]
  cases hc:fS id q e with
  |none=>exact D.cons _
  |some e'=>
   simp only[aW];rw[(ve hc).1];exact D.cons_cons _
structure DS (M' M:BM):Prop where
 ok:EE M→EE M'
 st:∀(k:Nat) (r':iQ) (e':dn),r'∈M'.side k→e'∈r'.2→∃r∈M.side k,r.1=r'.1∧∃e∈r.2,e.id=e'.id∧e'.aw≤e.aw
 len:M'.I.length≤M.I.length
theorem DS.refl (M:BM):DS M M:=⟨fun h=>h,fun k r e D I=>⟨r,D,rfl,e,I,rfl,ae⟩,af _⟩
theorem DS.trans {A B C:BM} (h:DS A B) (D:DS B C):DS A C:=⟨fun I=>h.ok (D.ok I),fun k r e J O=>by
 obtain⟨r1,a1,a2,e1,a3,a4,a5⟩:=h.st k r e J O;obtain⟨r2,b1,b2,e2,b3,b4,b5⟩:=D.st k r1 e1 a1 a3;exact⟨r2,b1,b2.trans a2,e2,b3,b4.trans a4,ae⟩,aF h.len D.len⟩
theorem JT {k:Nat} (h:l.Pairwise (fun a b=>bz k a.1 b.1=true)):(kZ id q l).Pairwise (fun a b=>bz k a.1 b.1=true):=by
 unfold kZ;refine List.Pairwise.filter _ ?_;rw[vF];exact h
theorem WR (h0:0<=q) {r':iQ} (D:r'∈kZ id q l) (J:e'∈r'.2):∃r∈l,r.1=r'.1/\∃e∈r.2,e.id=e'.id/\e'.aw<=e.aw:=by
 unfold kZ at D;obtain⟨r,hr,rfl⟩:=aV.1 (lX.1 D).1;obtain⟨I,a1,O,a3,a4,a5⟩:=pT J;refine⟨r,hr,rfl,I,a1,O,?_⟩
 by_cases hi:I.id=id
 ·obtain⟨b1,rfl⟩:=a5 hi
  simp only;omega
 ·rw[a4 hi];omega
theorem DS.cut (M:BM) (id q:Int) (J:0<=q):DS (M.cut id q) M:=by
 refine⟨fun h=>?_,fun k r e O h2=>?_,(rK.cut M id q).2⟩
 ·have D:=SB.X6 (M:=M) (c:=1000000) (fun e he=>⟨(h.ok e he).1,(h.ok e he).2.1⟩) id q J
  refine⟨?_,fun e he=>⟨(D e he).1,(D e he).2,?_⟩,fun r hr=>?_,fun r hr=>?_,?_,?_,aF (rK.cut M id q).2 h.cnt⟩
  ·rw[iI]
   exact List.Pairwise.sublist (NP id q M.I) h.nd
  ·rw[iI] at he
   obtain⟨e0,a1,a2,_⟩:=pT he;rw[<-a2];exact(h.ok e0 a1).2.2
  ·exact Mo (M:=M) (id:=id) (q:=q) (k:=0) hr
  ·exact Mo (M:=M) (id:=id) (q:=q) (k:=1) hr
  ·exact JT h.oU
  ·exact JT h.oV
 ·rw[rE] at O
  exact WR J O h2
theorem DS.CL:∀(es:List dn) (cs:List Int) (M:BM),DS (ja M es cs) M
 |e::es,c::cs,M=>by
  unfold ja;refine(DS.CL es cs _).trans ?_
  split
  ·exact DS.cut M e.id c ae
  ·exact DS.refl M
 |[],cs,M=>by cases cs<;>(unfold ja;exact DS.refl M)
 |e::es,[],M=>by unfold ja;exact DS.refl M
theorem FM (h:e∈M.I):∃k<2,∃r∈M.side k,e∈r.2:=by
 unfold BM.I at h;rcases aJ.1 h with h|h
 ·obtain⟨r,D,J⟩:=dD.1 h
  exact⟨0,ae,r,D,J⟩
 ·obtain⟨r,D,J⟩:=dD.1 h
  exact⟨1,ae,r,D,J⟩
theorem GW (h:EE M) {k:Nat} (hr:r∈M.side k):r.2≠[]:=by
 unfold BM.side at hr
 split at hr
 ·exact h.XL r hr
 ·exact h.Ol r hr
def At (S:Sm) (x k:Nat) (p id:Int):Prop:=∃M r e,S[x]?=some M∧r∈M.side k∧r.1=p∧e∈r.2∧e.id=id
structure iy (S' S:Sm):Prop where
 len:S'.length=S.length
 sh:∀(x:Nat) (M':BM),S'[x]?=some M'→∃M,S[x]?=some M∧DS M' M
 cnt:cK S'≤cK S
theorem iy.refl (S:Sm):iy S S:=⟨rfl,fun x M h=>⟨M,h,DS.refl M⟩,af _⟩
theorem iy.trans {A B C:Sm} (h:iy A B) (D:iy B C):iy A C:=⟨h.len.trans D.len,fun x M I=>by
 obtain⟨J,a1,O⟩:=h.sh x M I;obtain⟨M2,b1,b2⟩:=D.sh x J a1;exact⟨M2,b1,O.trans b2⟩,aF h.cnt D.cnt⟩
theorem iy.set (h:S[x]?=some M) (hs:DS M' M):iy (S.set x M') S:=⟨bT,fun y N D=>by
 rcases nX D with⟨rfl,rfl⟩|⟨_,I⟩
 ·exact⟨M,h,hs⟩
 ·exact⟨N,I,DS.refl N⟩,jE (lB h M') hs.len⟩
theorem iy.nr (P:PD) (S:Sm) (x k:Nat) (q:Int):iy (bM P S x k q).1 S:=by
 unfold bM
 split
 ·exact iy.refl S
 ·rename_i M D
  split
  ·exact iy.refl S
  ·exact iy.set D (DS.CL _ _ M)
theorem iy.nT (P:PD) (S:Sm) (x k:Nat) (im:Option Qt) (t:Int):iy (dA P S x k im t).1 S:=by
 unfold dA
 split
 ·exact iy.nr P S x k t
 ·exact(iy.nr P _ _ _ t).trans (iy.nr P S _ _ t)
theorem iy.cutAt (S:Sm) (x:Nat) (id q:Int) (D:0<=q):iy (cutAt S x id q) S:=by
 unfold Go.Proofs.YtbaaheidifacaaaGreat.cutAt
 split
 ·rename_i M I
  exact iy.set I (DS.cut M id q D)
 ·exact iy.refl S
theorem iy.run (P:PD) (x k:Nat) (ag:Int):∀(f:Nat) (S:Sm) (aw:Int),iy (dV P f S x k ag aw).1 S
 |0,S,aw=>iy.refl S
 |f+1,S,aw=>by
  unfold dV
  split
  ·exact iy.refl S
  ·split
   ·exact iy.refl S
   ·split
    ·exact(iy.run P x k ag f _ _).trans (iy.nT P S _ _ _ _)
    ·exact iy.refl S
theorem iy.at_ (h:iy S' S) {k:Nat} (ha:At S' x k p id):At S x k p id:=by
 obtain⟨M',r',e',D,I,J,O,h5⟩:=ha;obtain⟨M,a1,a2⟩:=h.sh x M' D;obtain⟨r,b1,b2,e,b3,b4,_⟩:=a2.st k r' e' I O;exact⟨M,r,e,a1,b1,b2.trans J,b3,b4.trans h5⟩
theorem iy.aK (h:iy S' S) (D:S'[x]?=some M') (J:e'∈M'.I):∃M e,S[x]?=some M/\e∈M.I/\e.id=e'.id:=by
 obtain⟨k,_,r,hr,he⟩:=FM J;obtain⟨M,a1,O⟩:=h.sh x M' D;obtain⟨r0,b1,b2,e,b3,b4,_⟩:=O.st k r e' hr he;exact⟨M,e,a1,fX b1 b3,b4⟩
theorem iy.stands (h:iy S' S) (hs:fI S' id):fI S id:=by
 obtain⟨x,M',e',D,I,J⟩:=hs;obtain⟨M,e,a1,O,a3⟩:=h.aK D I;exact⟨x,M,e,a1,O,a3.trans J⟩
theorem pn.less (h:pn P S) (I:iy S' S):pn P S':=by
 refine⟨h.right,I.len.trans h.sn,fun x M' D=>?_,fun x k M' r D hr=>?_,fun x y M N e e' h1 h2 h3 h4 h5=>?_,aF I.cnt h.cnt⟩
 ·obtain⟨M,a1,J⟩:=I.sh x M' D
  exact J.ok (h.xX x M a1)
 ·obtain⟨M,a1,J⟩:=I.sh x M' D
  have O:=GW (J.ok (h.xX x M a1)) hr;obtain⟨e,l,he⟩:=QE O;obtain⟨r0,b1,b2,_⟩:=J.st k r e hr (by rw[he];simp);rw[<-b2];exact h.pr x k M r0 a1 b1
 ·obtain⟨M0,e0,a1,J,a3⟩:=I.aK h1 h2
  obtain⟨N0,ax,b1,b2,b3⟩:=I.aK h3 h4;exact h.uq x y M0 N0 e0 ax a1 J b1 b2 (a3.trans (h5.trans b3.symm))
structure Mp (P:PD) (S:Sm) (x k:Nat) (ag:Int) (S':Sm) (q' p q:Int) (im:Option Qt) (st:jz):Prop where
 fine:pn P S'
 less:iy S' S
 q1:1≤q'
 next:jZ P S' x (1 - k)=some (p,q,im)
 US:lp k ag p=true
 st:st=⟨p,min q' q,im.isSome,(dA P S' x (1 - k) im (min q' q)).2⟩
theorem CW (x k:Nat) (ag:Int):∀(f:Nat) (S:Sm) (aw:Int),pn P S->∀st∈(dV P f S x k ag aw).2.1,∃S' q' p q im,Mp P S x k ag S' q' p q im st
 |0,S,aw,hS,st,h=>by simp[dV] at h
 |f+1,S,aw,hS,st,h=>by
  unfold dV at h
  split at h
  ·simp at h
  ·rename_i hq
   split at h
   ·simp at h
   ·rename_i p q im hn
    split at h
    ·rename_i hg
     rcases a9.1 h with rfl|h
     ·exact⟨S,aw,p,q,im,hS,iy.refl S,ae,hn,hg,rfl⟩
     ·have I:=iy.nT P S x (1 - k) im (min aw q)
      obtain⟨S',q',J,q2,D,a⟩:=CW x k ag f _ _ (hS.less I) st h;exact⟨S',q',J,q2,D,a.fine,a.less.trans I,a.q1,a.next,a.US,a.st⟩
    ·simp at h
theorem Qa {k:Nat} (h:jZ P S x k=some (p,q,none)):lU S x k=some (p,q):=by
 unfold jZ at h
 split at h
 ·rename_i r q' D J
  split at h
  ·injection h with h;injection h with _ h;injection h with _ h;cases h
  ·injection h with h;injection h with ha h;injection h with I h
   rw[D,<-ha,<-I]
 ·rename_i r D J
  injection h with h;injection h with ha h;injection h with I h;rw[D,<-ha,<-I]
 ·injection h with h;injection h with _ h;injection h with _ h;cases h
 ·cases h
theorem pn.sb (h:pn P S):SB 1000000 S:=by
 refine⟨fun M D e he=>?_,fun M D k r hr=>?_⟩
 ·obtain⟨x,hx,rfl⟩:=kv.1 D
  have:=(h.xX x _ (aj hx)).ok e he;exact⟨this.1,this.2.1⟩
 ·obtain⟨x,hx,rfl⟩:=kv.1 D
  exact GW (h.xX x _ (aj hx)) hr
theorem pn.nd (h:pn P S):∀M∈S,(M.I.map (·.id)).Nodup:=fun M D=>by
 obtain⟨x,hx,rfl⟩:=kv.1 D;exact(h.xX x _ (aj hx)).nd
section
variable {T:Tf}
def Tf.sd (T:Tf) (s:Int):Int:=if T.zx=true∧(s=1∨s=2) then 3 - s else s
def Tf.rep (T:Tf) (r:ir):ir:=⟨r.kind,r.id+T.d,r.inst,T.sd r.side,T.pr r.ag,T.b*r.aw,T.b*r.left,r.fy⟩
def Tf.oO (T:Tf) (m:Mk):Mk:=⟨T.sm m.S,fun y=>m.used (y - T.d),m.un⟩
def Tf.cmd (T:Tf) (c:bN) (ky:List UInt8):bN:=⟨c.kind,c.id+T.d,c.inst,T.sd c.side,T.pr c.ag,T.b*c.aw,T.b*c.least,c.time,ky⟩
theorem Tf.Mq (k:Nat) (D:k<2):T.sd ((k:Int)+1)=((T.k k:Nat):Int)+1:=by
 unfold Tf.sd Tf.k;have:k=0\/k=1:=ae;rcases this with rfl|rfl<;>cases T.zx<;>simp
theorem Tf.UU:T.sd 0=0:=by unfold Tf.sd;simp
theorem Tf.SW (s:Int) (h:s=1\/s=2):T.sd (3 - s)=3 - T.sd s:=by
 unfold Tf.sd;rcases h with rfl|rfl<;>cases T.zx<;>simp
theorem Tf.UW:T.pr 0=0:=by unfold Tf.pr;split<;>simp
theorem Tf.WS (a b:Int):T.pr (a+b)=T.pr a+T.pr b:=by
 unfold Tf.pr
 split<;>rw[zN]<;>omega
theorem Tf.GX (a b:Int):T.pr (a - b)=T.pr a - T.pr b:=by
 unfold Tf.pr
 split<;>rw[ku]<;>omega
theorem Tf.Yy (id fy:Int):mH (id+T.d) fy=(mH id fy).map T.rep:=by
 simp[mH,Tf.rep,Tf.UU,Tf.UW]
theorem Tf.month (fl:List fG) (ag:Int) (j:Nat):jq (fl.map T.fill) (T.pr ag) j=T.pr (jq fl ag j):=by
 unfold jq;rw[List.find?_map];have:((fun f:fG=>f.inst==j)∘T.fill)=fun f=>f.inst==j:=rfl;rw[this]
 cases fl.find? fun f=>f.inst==j<;>rfl
theorem JU (J:P.low<=P.high) (x:Nat) (p:Int):lu P x p=if P.high<P.settle.getD (cy P.n x).2 0+p then (P.high,P.high - p) else if P.settle.getD (cy P.n x).2 0+p<P.low then (P.low,P.low - p) else (P.settle.getD (cy P.n x).2 0+p,P.settle.getD (cy P.n x).2 0):=by
 unfold lu
 generalize P.settle.getD (cy P.n x).2 0=D
 by_cases I:P.high<D+p
 ·simp only[if_pos I]
  rw[if_neg ae]
 ·simp only[if_neg I]
theorem Tf.X7 (h:T.Ok) (I:T.Pr P P') (x:Nat) (p:Int):lu P' x (T.pr p)=(T.pr (lu P x p).1,T.pr (lu P x p).2):=by
 obtain⟨D,ef⟩:=Zn (P.settle.getD (cy P.n x).2 0);have e1:P'.settle.getD (cy P'.n x).2 0=T.pr D:=by rw[I.n,I.settle,ef]
 have J:P'.low=if T.zx=true then T.pr P.high else T.pr P.low:=by rw[I.low,I.lo,<-I.X2,<-I.VY]
 have O:P'.high=if T.zx=true then T.pr P.low else T.pr P.high:=by rw[I.high,I.hi,<-I.X2,<-I.VY]
 have ay:=I.lh;have m1:=T.qK h (x:=P.high) (y:=D+p);have m2:=T.qK h (x:=D+p) (y:=P.low);have m3:=T.qK h (x:=P.high) (y:=P.low);have m4:=T.qK h (y:=P.high) (x:=D+p);have m5:=T.qK h (y:=D+p) (x:=P.low);have m6:=T.qK h (y:=P.high) (x:=P.low);have ax:P'.low<=P'.high:=by
  rw[J,O]
  cases hm:T.zx
  ·rw[hm] at m3
   simp only[dm,if_false] at m3⊢;omega
  ·rw[hm] at m6
   simp only[if_true] at m6⊢;omega
 rw[JU ax,JU ay,e1,<-ef,J,O];simp only[<-Tf.WS]
 cases hm:T.zx
 ·rw[hm] at m1 m2
  simp only[dm,if_false] at m1 m2⊢;simp only[m1,m2]
  split
  ·simp only[Tf.GX]
  ·split
   ·simp only[Tf.GX]
   ·rfl
 ·rw[hm] at m4 m5
  simp only[if_true] at m4 m5⊢;simp only[m4,m5]
  by_cases h1:P.high<D+p
  ·rw[if_pos h1,if_neg ae,if_pos h1]
   simp only[Tf.GX]
  ·rw[if_neg h1,if_neg h1]
   split
   ·simp only[Tf.GX]
   ·rfl
theorem Tf.WT (h:T.Ok) (D:T.Pr P P') (x:Nat) (st:jz):fg P' x (T.step st)=(T.pr (fg P x st).1,T.pr (fg P x st).2):=by
 unfold fg;rw[show(T.step st).imp=st.imp from rfl,show(T.step st).U=st.U.map T.fill from rfl,show(T.step st).ag=T.pr st.ag from rfl,T.month,T.month,T.X7 h D,D.n]
 split<;>rfl
theorem Tf.tell (h:T.Ok) (D:T.Pr P P') (st:jz) (r:ir) (hs:r.side=1\/r.side=2):lz P' (T.step st) (T.rep r)=(lz P st r).map T.rep:=by
 unfold lz;rw[show(T.rep r).inst=r.inst from rfl,D.n,T.WT h D]
 split
 ·rfl
 ·simp only[aW,oe,true_and]
  unfold nW;rw[show(T.rep r).inst=r.inst from rfl,D.n];simp only[aW,iM,oe,and_true];refine⟨rfl,?_⟩;unfold Tf.rep;simp only[ir.mk.injEq,true_and,and_true];exact(T.SW _ hs).symm
theorem Tf.X8 (f:fG) (D:f.k<2):oC (T.fill f)=T.rep (oC f):=by
 unfold oC Tf.rep Tf.fill;simp only[T.Mq _ D]
theorem SX {k:Nat} (D:k<2):(k:Int)+1=1\/(k:Int)+1=2:=ae
theorem Tf.X9 (h:T.Ok) (I:T.Pr P P') {k:Nat} (J:k<2) (x:Nat) (st:jz) (hf:∀f∈st.U,f.k<2) (id left:Int):nH P' (id+T.d) x (T.k k) (T.step st) (T.b*left)=(nH P id x k st left).map T.rep:=by
 unfold nH;rw[cx]
 congr 1
 ·rw[show(T.step st).U=st.U.map T.fill from rfl,List.flatMap_map,List.map_flatMap]
  have:∀l:List fG,(∀f∈l,f.k<2)->(l.flatMap fun f=>lz P' (T.step st) (oC (T.fill f)))=l.flatMap fun f=>(lz P st (oC f)).map T.rep:=by
   intro l
   induction l with
   |nil=>intro _;rfl
   |cons f l O=>
    intro D;rw[bj,bj,O fun g hg=>D g (by simp[hg]),T.X8 f (D f bT),T.tell h I st _ (SX (D f bT))]
  exact this _ hf
 ·rw[<-T.tell h I st ⟨3,id,x,(k:Int)+1,st.ag,st.aw,left,0⟩ (SX J)]
  unfold Tf.rep;simp only[T.Mq k J];rfl
theorem Tf.SY (h:T.Ok) (D:T.Pr P P') {k:Nat} (I:k<2) (x:Nat) (id:Int):∀(l:List jz) (left:Int),(∀st∈l,∀f∈st.U,f.k<2)->kj P' (id+T.d) x (T.k k) (l.map T.step) (T.b*left)=(kj P id x k l left).map T.rep
 |[],left,_=>rfl
 |st::l,left,J=>by
  simp only[aW,kj];rw[show(T.step st).aw=T.b*st.aw from rfl,<-ku,T.X9 h D I x st (J st bT),Tf.SY h D I x id l _ fun s hs=>J s (by simp[hs]),cx]
theorem SZ {tp:kJ} {a D kb:Nat} {less:Bool} {q:Qt} (h:xe tp a D b kb less=some q):q.k0=D/\q.k1=kb:=by
 obtain⟨_,I,_,J,_⟩:=uG h;exact⟨I,J⟩
theorem WU {tp:kJ} {k:Nat} {q:Qt} (I:k<2) (h:q∈mG n tp x k):q.k0<2/\q.k1<2:=by
 unfold mG at h
 split at h
 ·rcases aJ.1 h with h|h
  ·obtain⟨j,_,D⟩:=ee.1 h
   have:=SZ D;omega
  ·obtain⟨j,_,D⟩:=ee.1 h
   have:=SZ D;omega
 ·cases hm:xe tp (cy n x).2 (1 - k) (cy n x).1 k true with
  |none=>rw[hm] at h;simp at h
  |some q'=>
   rw[hm] at h;simp at h;rw[h];have:=SZ hm;unfold rp;simp only;omega
theorem NQ {k:Nat} (hk:k<2) (h:jZ P S x k=some (p,q,im)):∀y,im=some y->y∈mG P.n (lU S) x k/\y.k0<2/\y.k1<2/\P.fy x y.ag=0/\p=y.ag/\q=y.aw:=by
 intro y hy;subst hy;have O:∀q',nF k (iq P (lU S) x k)=some q'->q'∈mG P.n (lU S) x k/\q'.k0<2/\q'.k1<2/\P.fy x q'.ag=0:=fun q' J=>by
  have I:=qF (vt J);have D:=WU hk I.1;exact⟨I.1,D.1,D.2,I.2⟩
 unfold jZ at h
 split at h
 ·rename_i r q' I D
  split at h
  ·injection h with h;injection h with ha h;injection h with hc h;injection h with h;subst h
   obtain⟨a,b,c,d⟩:=O _ D;exact⟨a,b,c,d,ha.symm,hc.symm⟩
  ·injection h with h;injection h with _ h;injection h with _ h;cases h
 ·injection h with h;injection h with _ h;injection h with _ h;cases h
 ·rename_i q' I D
  injection h with h;injection h with ha h;injection h with hc h;injection h with h;subst h;obtain⟨a,b,c,d⟩:=O _ D;exact⟨a,b,c,d,ha.symm,hc.symm⟩
 ·cases h
theorem CX {k:Nat}:∀{es:List dn} {cs:List Int} {f:fG},f∈dC x k p es cs->f.inst=x/\f.k=k/\f.ag=p/\0<f.aw/\∃e∈es,f.id=e.id/\f.left=e.aw - f.aw
 |[],cs,f,h=>by cases cs<;>simp[dC] at h
 |e::es,[],f,h=>by simp[dC] at h
 |e::es,c::cs,f,h=>by
  unfold dC at h;have D:f∈dC x k p es cs->f.inst=x/\f.k=k/\f.ag=p/\0<f.aw/\∃e'∈e::es,f.id=e'.id/\f.left=e'.aw - f.aw:=fun h=>by
   obtain⟨I,J,O,h4,e',h5,h6⟩:=CX h;exact⟨I,J,O,h4,e',by simp[h5],h6⟩
  split at h
  ·rename_i hc
   rcases a9.1 h with rfl|h
   ·exact⟨rfl,rfl,rfl,hc,e,bT,rfl,rfl⟩
   ·exact D h
  ·exact D h
theorem sR {k:Nat} {f:fG} (h:f∈(bM P S x k q).2):f.inst=x/\f.k=k/\0<f.aw/\∃M r l,S[x]?=some M/\M.side k=r::l/\f.ag=r.1/\∃e∈r.2,f.id=e.id/\f.left=e.aw - f.aw:=by
 unfold bM at h
 split at h
 ·simp at h
 ·rename_i M D
  split at h
  ·simp at h
  ·rename_i r l hs
   obtain⟨I,J,O,h4,h5⟩:=CX h;exact⟨I,J,h4,M,r,l,D,hs,O,h5⟩
theorem Qb {k:Nat} (D:k<2) (hi:∀y,im=some y->y.k0<2/\y.k1<2) {f:fG} (h:f∈(dA P S x k im t).2):f.k<2:=by
 unfold dA at h
 split at h
 ·rw[(sR h).2.1];exact D
 ·rename_i q
  rcases aJ.1 h with h|h
  ·rw[(sR h).2.1];exact(hi q rfl).1
  ·rw[(sR h).2.1];exact(hi q rfl).2
theorem S8 (P:PD) (x k:Nat) (D:k<2) (ag:Int):∀(f:Nat) (S:Sm) (aw:Int),∀st∈(dV P f S x k ag aw).2.1,∀y∈st.U,y.k<2
 |0,S,aw,st,h=>by simp[dV] at h
 |f+1,S,aw,st,h=>by
  unfold dV at h
  split at h
  ·simp at h
  ·split at h
   ·simp at h
   ·rename_i p q im hn
    split at h
    ·rcases a9.1 h with rfl|h
     ·intro y I
      exact Qb ae (fun z J=>by have:=NQ ae hn z J;exact⟨this.2.1,this.2.2.1⟩) I
     ·exact S8 P x k D ag f _ _ st h
    ·simp at h
theorem Tf.could (h:T.Ok) (D:T.Pr P P') (hc:T.b*c<=1000000) (x k:Nat) (I:k<2) (ag aw:Int) (hS:SB c S):
  ng P' (T.sm S) x (T.k k) (T.pr ag) (T.b*aw)=T.b*ng P S x k ag aw:=by
 unfold ng;rw[T.run h D hc x k I ag aw.toNat _ S aw hS (af _) (af _),ku]
theorem Tf.stuck (h:T.Ok) (I:T.Pr P P') (hc:T.b*c<=1000000) (x k:Nat) (J:k<2) (ag aw:Int) (hS:SB c S):
  lV P' (T.sm S) x (T.k k) (T.pr ag) (T.b*aw)=lV P S x k ag aw:=by
 unfold lV;rw[T.run h I hc x k J ag aw.toNat _ S aw hS (af _) (af _),I.n,<-T.Ai,T.all h (tp:=lU (dV P aw.toNat S x k ag aw).1) (fun x k=>T.WO h _ x k)];have O:(T.b*(dV P aw.toNat S x k ag aw).2.2 !=0)=((dV P aw.toNat S x k ag aw).2.2 !=0):=by
  have:=sP (a:=T.b) (x:=(dV P aw.toNat S x k ag aw).2.2) (y:=0) h.b1;rw[iN] at this
  by_cases D:(dV P aw.toNat S x k ag aw).2.2=0
  ·rw[D,iN]
  ·rw[bne_iff_ne.2 D,bne_iff_ne.2 (fun e=>D (this.1 e))]
 have e1:(fun q:Qt=>lp (T.k k) (T.pr ag) (T.qt q).ag)=fun q=>lp k ag q.ag:=by
  funext q
  exact T.US h k J ag q.ag
 simp only;rw[O,List.any_map];show(_ && (mG P.n _ x (1 - k)).any (fun q:Qt=>lp (T.k k) (T.pr ag) (T.qt q).ag))=_;rw[e1]
theorem Tf.Ms (h:T.Ok) (S:Sm) (x:Nat) (id q:Int):cutAt (T.sm S) x (id+T.d) (T.b*q)=T.sm (cutAt S x id q):=by
 unfold cutAt;rw[T.at_]
 cases D:S[x]? with
 |none=>rfl
 |some M=>
  simp only[fc];rw[T.cut h,T.set]
theorem Tf.WV (h:T.Ok) (S:Sm) (x k:Nat) (D:k<2) (id p q:Int):oW (T.sm S) x (T.k k) (id+T.d) (T.pr p) (T.b*q)=T.sm (oW S x k id p q):=by
 unfold oW;rw[T.at_]
 cases I:S[x]? with
 |none=>rfl
 |some M=>
  simp only[fc];rw[T.add h M k D,T.set]
theorem Tf.enter (h:T.Ok) (O:T.Pr P P') (hc:T.b*c<=1000000) (m:Mk) (hS:SB c m.S) (id:Int) (x k:Nat) (D:k<2) (ag aw time:Int):
  iE P' (T.oO m) (id+T.d) x (T.k k) (T.pr ag) (T.b*aw) time=(T.oO (iE P m id x k ag aw time).1,(iE P m id x k ag aw time).2.map T.rep):=by
 have hr:=T.run h O hc x k D ag aw.toNat _ m.S aw hS (af _) (af _);have hu:(T.oO m).used (id+T.d)=m.used id:=by show m.used (id+T.d - T.d)=_;rw[Int.add_sub_cancel]
 have hf:(fun y=>if y=id+T.d then true else (T.oO m).used y)=fun y=>(fun y=>if y=id then true else m.used y) (y - T.d):=by
  funext y
  by_cases hy:y=id+T.d
  ·subst hy;simp
  ·rw[if_neg hy]
   show _=if y - T.d=id then true else m.used (y - T.d);rw[if_neg ae];rfl
 unfold iE;simp only;rw[show(T.oO m).S=T.sm m.S from rfl,hr,hu,show(T.oO m).un=m.un from rfl,hf];simp only;rw[T.SY h O D x id _ aw (S8 P x k D ag _ _ _)];have ho:(⟨1,id+T.d,x,((T.k k:Nat):Int)+1,T.pr ag,T.b*aw,T.b*aw,0⟩:ir)=T.rep ⟨1,id,x,(k:Int)+1,ag,aw,aw,0⟩:=by
  unfold Tf.rep;simp only[T.Mq k D]
 have hz:T.b*(dV P aw.toNat m.S x k ag aw).2.2=0↔(dV P aw.toNat m.S x k ag aw).2.2=0:=by
  have:=sP (a:=T.b) (x:=(dV P aw.toNat m.S x k ag aw).2.2) (y:=0) h.b1;rw[iN] at this;exact this
 rw[ho]
 by_cases I:(dV P aw.toNat m.S x k ag aw).2.2=0
 ·rw[if_pos I,if_pos (hz.2 I)]
  rfl
 ·rw[if_neg I,if_neg (fun e=>I (hz.1 e))]
  by_cases J:time=1
  ·rw[if_pos J,if_pos J,T.WV h _ _ _ D]
   rfl
  ·rw[if_neg J,if_neg J,cx]
   simp only[Prod.mk.injEq];refine⟨rfl,?_⟩;simp only[aW,iM,fO];unfold Tf.rep;simp only[T.Mq k D,iN]
theorem Tf.len (S:Sm):cK (T.sm S)=cK S:=by
 have D:∀l:List iQ,(gY (l.map T.lvl)).length=(gY l).length:=fun l=>by
  unfold gY;rw[List.flatMap_map]
  induction l with
  |nil=>rfl
  |cons r l J=>rw[bj,bj,aC,aC,J];simp[Tf.lvl]
 have hm:∀M:BM,(T.bm M).I.length=M.I.length:=fun M=>by
  unfold BM.I Tf.bm
  cases T.zx
  ·simp[D]
  ·simp[D];omega
 unfold cK Tf.sm;rw[di]
 congr 1
 exact cJ fun M _=>hm M
theorem Tf.order (h:T.Ok) (J:T.Pr P P') (hc:T.b*c<=1000000) (m:Mk) (hS:SB c m.S) (y:bN) (ky:List UInt8) (hs:y.side=1\/y.side=2):
  lW P' (T.oO m) (T.cmd y ky)=(T.oO (lW P m y).1,(lW P m y).2.map T.rep):=by
 obtain⟨k,O,ek⟩:∃k:Nat,k<2/\y.side=(k:Int)+1:=by
  rcases hs with h|h
  ·exact⟨0,ae,ae⟩
  ·exact⟨1,ae,ae⟩
 have e1:(y.side - 1).toNat=k:=ae;have e2:((T.cmd y ky).side - 1).toNat=T.k k:=by
  show(T.sd y.side - 1).toNat=_;rw[ek,T.Mq k O];omega
 have hu:(T.oO m).used (y.id+T.d)=m.used y.id:=by show m.used (y.id+T.d - T.d)=_;rw[Int.add_sub_cancel]
 unfold lW;simp only;rw[e1,e2,show(T.cmd y ky).inst=y.inst from rfl,show(T.cmd y ky).ag=T.pr y.ag from rfl,show(T.cmd y ky).id=y.id+T.d from rfl,show(T.cmd y ky).aw=T.b*y.aw from rfl,show(T.cmd y ky).least=T.b*y.least from rfl,show(T.cmd y ky).time=y.time from rfl,
  T.oY h J,hu,show(T.oO m).S=T.sm m.S from rfl,T.len,T.could h J hc _ k O _ _ hS,T.stuck h J hc _ k O _ _ hS,T.enter h J hc m hS _ _ k O]
 obtain⟨D,el⟩:=Zn (if y.time=3 then y.aw else y.least);have hl:(if y.time=3 then T.b*y.aw else T.b*y.least)=T.b*D:=by rw[el];split<;>rfl
 rw[hl,<-el];have I:(0<T.b*D)=(0<D):=propext (mul_pos_iff h.b1);have ax:(T.b*ng P m.S y.inst.toNat k y.ag y.aw<T.b*D)=(ng P m.S y.inst.toNat k y.ag y.aw<D):=propext (p8 h.b1);simp only[I,ax,T.Yy]
 repeat' split
 all_goals rfl
theorem Tf.NR (l:List iQ) (id:Int):np (l.map T.lvl) (id+T.d)=(np l id).map fun r=>(T.pr r.1,T.aK r.2):=by
 induction l with
 |nil=>rfl
 |cons r l D=>
  unfold np at D⊢;rw[aW,rT,rT];have e:(T.lvl r).2.find? (fun e=>e.id==id+T.d)=(r.2.find? fun e=>e.id==id).map T.aK:=by
   show(r.2.map T.aK).find? _=_;rw[List.find?_map]
   congr 2
   funext e
   show(e.id+T.d==id+T.d)=(e.id==id)
   by_cases he:e.id=id
   ·rw[he];simp
   ·have:e.id+T.d≠id+T.d:=ae
    rw[beq_eq_false_iff_ne.2 he,beq_eq_false_iff_ne.2 this]
  rw[e]
  cases r.2.find? fun e=>e.id==id with
  |none=>exact D
  |some e=>rfl
theorem FN (h:np l id=some (p,e)):e∈gY l/\e.id=id:=by
 obtain⟨r,D,_,I,J⟩:=wP h;exact⟨dD.2 ⟨r,D,I⟩,J⟩
theorem Tf.Ya (M:BM) (hn:(M.I.map (·.id)).Nodup) (id:Int):uy (T.bm M) (id+T.d)=(uy M id).map fun r=>(T.k r.1,T.pr r.2.1,T.aK r.2.2):=by
 unfold uy Tf.bm
 cases hm:T.zx
 ·simp only[dm,if_false]
  rw[T.NR,T.NR];have D:∀k,T.k k=k:=fun k=>by unfold Tf.k;rw[hm];simp
  cases np M.s0 id with
  |some r=>simp[D]
  |none=>cases np M.s1 id<;>simp[D]
 ·simp only[if_true]
  rw[T.NR,T.NR];have D:∀k,T.k k=1 - k:=fun k=>by unfold Tf.k;rw[hm];simp
  cases J:np M.s0 id with
  |some r=>
   cases O:np M.s1 id with
   |some r'=>
    exfalso;obtain⟨a1,a2⟩:=FN (p:=r.1) (e:=r.2) J;obtain⟨b1,b2⟩:=FN (p:=r'.1) (e:=r'.2) O;unfold BM.I at hn;rw[cx,dw] at hn;exact hn.2.2 _ (aV.2 ⟨_,a1,a2⟩) _ (aV.2 ⟨_,b1,b2⟩) rfl
   |none=>simp[D]
  |none=>cases np M.s1 id<;>simp[D]
theorem Tf.Ye (S:Sm) (hn:∀M∈S,(M.I.map (·.id)).Nodup) (id:Int):sX (T.sm S) (id+T.d)=(sX S id).map fun r=>(r.1,T.k r.2.1,T.pr r.2.2.1,T.aK r.2.2.2):=by
 unfold sX;rw[show(T.sm S).length=S.length from by unfold Tf.sm;simp]
 generalize List.range S.length=l
 induction l with
 |nil=>rfl
 |cons x l D=>
  rw[rT,rT,T.at_]
  cases J:S[x]? with
  |none=>exact D
  |some M=>
   simp only[fc,Option.bind_some];rw[T.Ya M (hn M (aH J)) id]
   cases uy M id with
   |none=>exact D
   |some r=>rfl
theorem SB.cutAt (h:SB c S) (x:Nat) (id q:Int) (D:0<=q):SB c (cutAt S x id q):=by
 unfold Go.Proofs.YtbaaheidifacaaaGreat.cutAt
 split
 ·rename_i M I
  exact h.set x ((h.bm I).cut id q D)
 ·exact h
theorem Tf.cancel (h:T.Ok) (m:Mk) (id:Int) (x k:Nat) (D:k<2) (p:Int) (e:dn):
  dG (T.oO m) (id+T.d) x (T.k k) (T.pr p) (T.aK e)=(T.oO (dG m id x k p e).1,(dG m id x k p e).2.map T.rep):=by
 unfold dG;rw[show(T.oO m).S=T.sm m.S from rfl,show(T.aK e).aw=T.b*e.aw from rfl,T.Ms h];simp only[Prod.mk.injEq,aW,iM,oe,and_true];refine⟨rfl,?_⟩;unfold Tf.rep;simp only[T.Mq k D,iN]
theorem Tf.reduce (h:T.Ok) (m:Mk) (id aw:Int) (x k:Nat) (D:k<2) (p:Int) (e:dn):
  jh (T.oO m) (id+T.d) (T.b*aw) x (T.k k) (T.pr p) (T.aK e)=(T.oO (jh m id aw x k p e).1,(jh m id aw x k p e).2.map T.rep):=by
 unfold jh;rw[show(T.oO m).S=T.sm m.S from rfl,show(T.aK e).aw=T.b*e.aw from rfl,T.Ms h];simp only[Prod.mk.injEq,aW,iM,oe,and_true];refine⟨rfl,?_⟩;unfold Tf.rep;simp only[T.Mq k D,ku]
theorem Tf.replace (h:T.Ok) (I:T.Pr P P') (hc:T.b*c<=1000000) (m:Mk) (hS:SB c m.S) (y:bN) (ky:List UInt8) (x k:Nat) (D:k<2) (p:Int) (e:dn) (he:0<=e.aw):
  replaceM P' (T.oO m) (T.cmd y ky) x (T.k k) (T.pr p) (T.aK e)=(T.oO (replaceM P m y x k p e).1,(replaceM P m y x k p e).2.map T.rep):=by
 unfold replaceM;simp only;rw[show(T.cmd y ky).ag=T.pr y.ag from rfl,show(T.cmd y ky).id=y.id+T.d from rfl,show(T.cmd y ky).aw=T.b*y.aw from rfl,show(T.aK e).aw=T.b*e.aw from rfl,<-ku,
  T.fy h I,show(T.oO m).S=T.sm m.S from rfl,T.Ms h,T.stuck h I hc _ k D _ _ (hS.cutAt _ _ _ he),T.reduce h m y.id (e.aw - y.aw) x k D p e,T.cancel h m y.id x k D p e,T.Yy,T.Yy]
 have e1:(T.pr y.ag=T.pr p/\T.b*y.aw<=T.b*e.aw)=(y.ag=p/\y.aw<=e.aw):=by
  rw[propext (T.VX h),propext (fU h.b1)]
 simp only[e1];rw[T.enter h I hc (dG m y.id x k p e).1 (hS.cutAt _ _ _ he) y.id x k D]
 repeat' split
 all_goals first
  |rfl
  |(simp only[cx])
theorem Tf.Zz (h:T.Ok) (O:T.Pr P P') (hc:T.b*c<=1000000) (m:Mk) (hS:SB c m.S) (hn:∀M∈m.S,(M.I.map (·.id)).Nodup) (y:bN) (ky:List UInt8)
  (h1:dx y=0) (h2:dx (T.cmd y ky)=0) (hs:y.kind=1->y.side=1\/y.side=2):
  pC P' (T.oO m) (T.cmd y ky)=(T.oO (pC P m y).1,(pC P m y).2.map T.rep):=by
 unfold pC;have z0:¬((0:Nat)≠0):=ae;rw[h1,h2,if_neg z0,if_neg z0,show(T.cmd y ky).kind=y.kind from rfl]
 by_cases D:y.kind=1
 ·rw[if_pos D,if_pos D]
  exact T.order h O hc m hS y ky (hs D)
 ·rw[if_neg D,if_neg D,show(T.cmd y ky).id=y.id+T.d from rfl,show(T.oO m).S=T.sm m.S from rfl,T.Ye m.S hn]
  cases hf:sX m.S y.id with
  |none=>
   simp only[Option.map_none];rw[T.Yy]
  |some r=>
   obtain⟨x,k,p,e⟩:=r;simp only[fc];obtain⟨M,hM,J,r,hr,h3,h4,h5⟩:=sJ hf;have he:1<=e.aw:=((hS.at_ hM hr).2 e h4).1;have e1:(y.kind=2\/T.b*e.aw<=T.b*y.aw)=(y.kind=2\/e.aw<=y.aw):=by rw[propext (fU h.b1)]
   rw[show(T.aK e).aw=T.b*e.aw from rfl,show(T.cmd y ky).aw=T.b*y.aw from rfl,T.replace h O hc m hS y ky x k J p e ae,T.cancel h m y.id x k J p e,T.reduce h m y.id y.aw x k J p e];simp only[e1]
   repeat' split
   all_goals rfl
def WW (R:bN→bN→Prop):List bN→List bN→Prop
 |[],[]=>True
 |a::l,b::l'=>R a b∧WW R l l'
 |_,_=>False
theorem Tf.runs (h:T.Ok) (J:T.Pr P P') (hc:T.b*c<=1000000):∀(l l':List bN) (m:Mk),
  WW (fun y y'=>dx y=0/\dx y'=0/\(y.kind=1->y.side=1\/y.side=2)/\∃ky,y'=T.cmd y ky) l l'->
  (∀n,SB c (runM P m (l.take n)).1.S/\∀M∈(runM P m (l.take n)).1.S,(M.I.map (·.id)).Nodup)->
  runM P' (T.oO m) l'=(T.oO (runM P m l).1,(runM P m l).2.map T.rep)
 |[],[],m,_,_=>rfl
 |a::l,[],m,hr,_=>hr.elim
 |[],b::l',m,hr,_=>hr.elim
 |a::l,b::l',m,hr,hf=>by
  obtain⟨⟨r1,r2,O,ky,rfl⟩,hr⟩:=hr;have D:=hf 0;simp only[QA,runM] at D;have hd:=T.Zz h J hc m D.1 D.2 a ky r1 r2 O;unfold runM;rw[hd];simp only;rw[Tf.runs h J hc l l' (pC P m a).1 hr fun n=>by
   have:=hf (n+1);rw[nB] at this;unfold runM at this;exact this]
  simp only[cx]
theorem Tf.UX (D:T.Pr P P'):T.oO (Mk.new P)=Mk.new P':=by
 unfold Tf.oO Mk.new Tf.sm;rw[Tf.count D];simp only[Mk.mk.injEq,and_true];rw[List.map_replicate]
 congr 1
 unfold Tf.bm
 cases T.zx<;>rfl
end
structure YU (c:bN):Prop where
 side:c.side=1∨c.side=2
 q1:1≤c.aw
 q2:c.aw≤1000000
theorem CY {c:bN} (h:dx c=0) (hk:c.kind=1):YU c:=by
 unfold dx wN at h
 by_cases h1:c.kind<1\/4<c.kind
 ·omega
 rw[if_neg h1] at h
 by_cases D:c.id<1\/1099511627776<c.id
 ·rw[if_pos D] at h;cases h
 rw[if_neg D,if_pos hk] at h
 by_cases I:c.side≠1/\c.side≠2
 ·rw[if_pos I] at h;cases h
 rw[if_neg I] at h
 by_cases J:c.time<1\/3<c.time
 ·rw[if_pos J] at h;cases h
 rw[if_neg J] at h
 by_cases O:¬kL c.aw
 ·rw[if_pos O] at h;cases h
 have h6:kL c.aw:=by
  by_cases hh:kL c.aw
  ·exact hh
  ·exact absurd hh O
 exact⟨ae,h6.1,h6.2⟩
theorem sS {c:bN} (h:dx c=0) (hk:c.kind≠1) (D:c.kind≠2):1<=c.aw/\c.aw<=1000000:=by
 unfold dx at h
 by_cases I:c.kind<1\/4<c.kind
 ·rw[if_pos I] at h;cases h
 rw[if_neg I] at h
 by_cases J:c.id<1\/1099511627776<c.id
 ·rw[if_pos J] at h;cases h
 rw[if_neg J,if_neg hk] at h
 by_cases O:kL c.aw
 ·exact O
 ·rw[if_pos ⟨D,O⟩] at h;cases h
theorem CZ {P:PD} (x k:Nat) (ag:Int):∀(f:Nat) (S:Sm) (aw:Int),SB 1000000 S->0<=aw->0<=(dV P f S x k ag aw).2.2/\(dV P f S x k ag aw).2.2<=aw
 |0,S,aw,_,h=>⟨h,cM _⟩
 |f+1,S,aw,hS,h=>by
  unfold dV
  split
  ·exact⟨h,cM _⟩
  ·split
   ·exact⟨h,cM _⟩
   ·rename_i p q im hn
    split
    ·have I:=hS.next hn
     have D:=CZ (P:=P) x k ag f (dA P S x (1 - k) im (min aw q)).1 (aw - min aw q) (hS.nT _ _ _ _) ae;exact⟨D.1,by have:=D.2;simp only at this⊢;omega⟩
    ·exact⟨h,cM _⟩
structure Yf (P:PD) (r a b:ir):Prop where
 ak:a.kind=3
 bk:b.kind=3
 ZF:a.id=r.id
 ZG:b.id=r.id
 ai:a.inst=((cy P.n r.inst.toNat).1:Int)
 bi:b.inst=((cy P.n r.inst.toNat).2:Int)
 sa:a.side=r.side
 sb:b.side≠r.side
 aq:a.aw=r.aw
 bq:b.aw=r.aw
 al:a.left=r.left
 bl:b.left=r.left
 pr:a.ag - b.ag=r.ag
 wa:P.fy (cy P.n r.inst.toNat).1 a.ag=0
 wb:P.fy (cy P.n r.inst.toNat).2 b.ag=0
 an:(cy P.n r.inst.toNat).1<P.n
 bn:(cy P.n r.inst.toNat).2<P.n
structure zL (P:PD) (r:ir):Prop where
 inst:∃x:Nat,r.inst=(x:Int)∧x<P.count
 ag: -2000000≤r.ag∧r.ag≤2000000
 aw:0≤r.aw∧r.aw≤1000000
 left:0≤r.left∧r.left≤1000000
inductive jf (P:PD):List ir→Prop
 |nil:jf P []
 |one (r:ir) (l:List ir):zL P r→(r.kind≠3∨r.inst<P.n)→jf P l→jf P (r::l)
 |three (r a b:ir) (l:List ir):zL P r→zL P a→zL P b→Yf P r a b→jf P l→jf P (r::a::b::l)
theorem jf.all {l:List ir} (h:jf P l):∀r∈l,zL P r:=by
 induction h with
 |nil=>intro r hr;cases hr
 |one r l J h _ I=>
  intro y D;rcases a9.1 D with rfl|D
  ·exact J
  ·exact I y D
 |three r a b l O h2 h3 h _ I=>
  intro y D;rcases a9.1 D with rfl|D
  ·exact O
  ·rcases a9.1 D with rfl|D
   ·exact h2
   ·rcases a9.1 D with rfl|D
    ·exact h3
    ·exact I y D
theorem jf.app {l m:List ir} (h:jf P l) (hm:jf P m):jf P (l++m):=by
 induction h with
 |nil=>exact hm
 |one r l I h _ D=>exact .one r _ I h D
 |three r a b l J O h3 h _ D=>exact .three r a b _ J O h3 h D
theorem jf.flat {α:Type} {l:List α} {f:α->List ir} (h:∀x∈l,jf P (f x)):jf P (l.flatMap f):=by
 induction l with
 |nil=>exact .nil
 |cons x l D=>
  rw[bj];exact(h x bT).app (D fun y I=>h y (by simp[I]))
theorem pD (hx:x<P.n) (D:P.tick∣p) (I:P.low<=p) (J:p<=P.high):P.fy x p=0:=by
 unfold PD.fy PD.lo PD.hi;rw[if_pos hx,if_pos hx,if_neg (by simpa using TL D),if_neg ae]
theorem S9 (I:P.gZ) (h1:P.n<=x) (h2:x<P.count) (hp:P.fy x p=0):
  (lu P x p).1 - (lu P x p).2=p/\P.fy (cy P.n x).1 (lu P x p).1=0/\P.fy (cy P.n x).2 (lu P x p).2=0:=by
 obtain⟨a1,J,_⟩:=I.RG h1 h2;obtain⟨_,_,O,b4,b5⟩:=I.ag hp;unfold PD.lo at b4;unfold PD.hi at b5;rw[if_neg ae] at b4 b5;obtain⟨D,ef⟩:=Zn (P.settle.getD (cy P.n x).2 0);have hf:P.tick∣D/\P.low<=D/\D<=P.high:=by
  have hl:(cy P.n x).2<P.settle.length:=by rw[I.vI];exact J
  rw[ef,jI,aj hl];exact I.KY _ (nv hl)
 have c1:=I.Nr;have c2:=I.Uh;have c3:=I.E5;have c4:=I.lh;have c5:=I.EK;have n1:(cy P.n x).1<P.n:=ae;unfold lu;rw[<-ef]
 by_cases h3:P.high<D+p
 ·simp only[if_pos h3]
  rw[if_neg ae];exact⟨by simp only;omega,pD n1 c1 ae ae,pD J (Int.dvd_sub c1 O) (by simp only;omega) (by simp only;omega)⟩
 ·simp only[if_neg h3]
  by_cases h4:D+p<P.low
  ·rw[if_pos h4]
   exact⟨by simp only;omega,pD n1 c2 ae ae,pD J (Int.dvd_sub c2 O) (by simp only;omega) (by simp only;omega)⟩
  ·rw[if_neg h4]
   exact⟨by simp only;omega,pD n1 (Int.dvd_add hf.1 O) (by simp only;omega) (by simp only;omega),pD J hf.1 hf.2.1 hf.2.2⟩
theorem FO {d:Int} (D:∀f∈fl,f.inst=j->f.ag=p) (I:∃f∈fl,f.inst=j):jq fl d j=p:=by
 unfold jq
 cases hf:fl.find? fun f=>f.inst==j with
 |none=>
  obtain⟨f,a,b⟩:=I;have:=DZ.1 hf f a;simp[b] at this
 |some f=>
  have J:=MV hf;exact D f (uP hf) (by simpa using J)
theorem zA {d:Int} (h:∀f∈fl,f.inst≠j):jq fl d j=d:=by
 unfold jq
 cases hf:fl.find? fun f=>f.inst==j with
 |none=>rfl
 |some f=>
  have D:=MV hf;exact absurd (by simpa using D) (h f (uP hf))
theorem jT (O:P.gZ) {r:ir} (hx:r.inst=(x:Int)) (hc:x<P.count) (hk:r.kind=3) (hs:r.side=1\/r.side=2) (D:zL P r)
  (hp:P.n<=x->(fg P x st).1 - (fg P x st).2=r.ag/\P.fy (cy P.n x).1 (fg P x st).1=0/\P.fy (cy P.n x).2 (fg P x st).2=0):jf P (lz P st r):=by
 unfold lz;have e:r.inst.toNat=x:=ae;rw[e]
 split
 ·exact .one r [] D (.inr ae) .nil
 ·rename_i hn
  obtain⟨h1,h2,h3⟩:=hp ae;have ax:=O.cnt;have I:=O.ag h2;have J:=O.ag h3;obtain⟨l1,l2,_⟩:=O.RG (x:=x) ae hc;unfold nW;refine .three r _ _ [] D ⟨⟨_,by rw[e],ae⟩,⟨e▸I.1,e▸I.2.1⟩,D.aw,D.left⟩ ⟨⟨_,by rw[e],ae⟩,⟨e▸J.1,e▸J.2.1⟩,D.aw,D.left⟩ ⟨hk,hk,rfl,rfl,rfl,rfl,rfl,?_,rfl,rfl,rfl,rfl,h1,?_,?_,?_,?_⟩ .nil
  ·show 3 - r.side≠r.side;omega
  ·rw[e];exact h2
  ·rw[e];exact h3
  ·rw[e];omega
  ·rw[e];omega
structure FP (f:fG):Prop where
 aw:0≤f.aw∧f.aw≤1000000
 left:0≤f.left∧f.left≤1000000
theorem JV {k:Nat}:∀{es:List dn} {cs:List Int} {f:fG},(∀(m:Nat) (e:dn),es[m]?=some e->∃c,cs[m]?=some c/\0<=c/\c<=e.aw/\e.aw<=1000000)->f∈dC x k p es cs->FP f
 |[],cs,f,_,h=>by cases cs<;>simp[dC] at h
 |e::es,[],f,_,h=>by simp[dC] at h
 |e::es,c::cs,f,hc,h=>by
  have I:f∈dC x k p es cs->FP f:=JV fun m e' D=>hc (m+1) e' D;unfold dC at h
  split at h
  ·rcases a9.1 h with rfl|h
   ·obtain⟨c',J,O,h3,h4⟩:=hc 0 e rfl
    obtain rfl:c=c':=bW J;exact⟨⟨O,by show c<=1000000;omega⟩,by show 0<=e.aw - c;omega,by show e.aw - c<=1000000;omega⟩
   ·exact I h
  ·exact I h
theorem C7 (hS:pn P S) {k:Nat} (ht:lU S x k=some (p,a)) (h1:1<=t) (h2:t<=a):
  x<P.count/\P.fy x p=0/\(∃f∈(bM P S x k t).2,True)/\∀f∈(bM P S x k t).2,f.inst=x/\f.k=k/\f.ag=p/\At S x k p f.id/\FP f:=by
 obtain⟨M,r,l,a1,I,a3,a4⟩:=oE ht;have hx:x<P.count:=by rw[<-hS.sn];exact(az.1 a1).1
 have hr:r∈M.side k:=by rw[I];simp
 have ax:=(uH hS.right (hS.xX x M a1) a1 I h1 ae).1;refine⟨hx,a3▸hS.pr x k M r a1 hr,?_,fun f hf=>?_⟩
 ·obtain⟨f,m,hf⟩:=QE ax
  exact⟨f,by rw[hf];simp,trivial⟩
 ·obtain⟨b1,b2,_,M',r',l',J,O,b5,e,b6,b7,_⟩:=sR hf
  rw[a1] at J;injection J with J;subst J;rw[I] at O;injection O with O _;subst O;have ay:=yL hS.right (hS.xX x M a1) hr (q:=t) ae ae;have a0:FP f:=by
   refine JV (x:=x) (k:=k) (p:=r.1) (es:=r.2) (cs:=mA P k r t) (fun m e' D=>?_) ?_
   ·obtain⟨c,c1,c2,c3⟩:=ay.2 m e' D
    have:=(hS.xX x M a1).ok e' (fX hr (aH D));exact⟨c,c1,c2,c3,this.2.1⟩
   ·unfold bM at hf
    rw[a1] at hf;simp only[I] at hf;exact hf
  exact⟨b1,b2,b5.trans a3,⟨M,r,e,a1,hr,a3,b6,b7.symm⟩,a0⟩
theorem UY {k D k':Nat} (h:D≠x):lU (bM P S x k t).1 D k'=lU S D k':=by
 unfold lU;rw[yN h]
structure UZ (P:PD) (S:Sm) (x k:Nat) (p t:Int) (q:Qt) (fl:List fG):Prop where
 i0:q.i0<P.count
 i1:q.i1<P.count
 mem:∀f∈fl,(f.inst=q.i0∧f.k=q.k0∧At S q.i0 q.k0 f.ag f.id)∨(f.inst=q.i1∧f.k=q.k1∧At S q.i1 q.k1 f.ag f.id)
 fb:∀f∈fl,FP f
 p:∃p0 p1,P.fy q.i0 p0=0∧P.fy q.i1 p1=0∧(∀f∈fl,f.inst=q.i0→f.ag=p0)∧(∀f∈fl,f.inst=q.i1→f.ag=p1)∧(∃f∈fl,f.inst=q.i0)∧(∃f∈fl,f.inst=q.i1)∧
  ((x<P.n∧q.i0=fv P.n x q.i1∧x<q.i1∧q.i1<P.n∧p=p0+p1)∨(x<P.n∧q.i0=fv P.n q.i1 x∧q.i1<x∧p=p1 - p0)∨(P.n≤x∧q.i0=(cy P.n x).1∧q.i1=(cy P.n x).2∧p=p0 - p1))
theorem Mt (hS:pn P S) {k:Nat} (hx:x<P.count) (hk:k<2) {q:Qt} (hq:q∈mG P.n (lU S) x k) (h1:1<=t) (h2:t<=q.aw):UZ P S x k q.ag t q (dA P S x k (some q) t).2:=by
 obtain⟨J,a0,a2,p0,q0,p1,q1,t0,t1,a3,O⟩:=hS.right.quote hx hk hq;have D:=C7 hS t0 h1 ae;have ax:lU (bM P S q.i0 q.k0 t).1 q.i1 q.k1=some (p1,q1):=by rw[UY (fun e=>J e.symm)];exact t1
 have ay:=hS.less (iy.nr P S q.i0 q.k0 t);have I:=C7 ay ax h1 ae;have hm:∀f∈(dA P S x k (some q) t).2,f∈(bM P S q.i0 q.k0 t).2\/f∈(bM P (bM P S q.i0 q.k0 t).1 q.i1 q.k1 t).2:=fun f hf=>aJ.1 hf;refine⟨D.1,I.1,fun f hf=>?_,fun f hf=>?_,p0,p1,D.2.1,I.2.1,fun f hf hi=>?_,fun f hf hi=>?_,?_,?_,?_⟩
 ·rcases hm f hf with h|h
  ·obtain⟨a,b,c,d,_⟩:=D.2.2.2 f h
   exact .inl ⟨a,b,c▸d⟩
  ·obtain⟨a,b,c,d,_⟩:=I.2.2.2 f h
   exact .inr ⟨a,b,c▸(iy.nr P S q.i0 q.k0 t).at_ d⟩
 ·rcases hm f hf with h|h
  ·exact(D.2.2.2 f h).2.2.2.2
  ·exact(I.2.2.2 f h).2.2.2.2
 ·rcases hm f hf with h|h
  ·exact(D.2.2.2 f h).2.2.1
  ·exact absurd (hi.symm.trans (I.2.2.2 f h).1) J
 ·rcases hm f hf with h|h
  ·exact absurd ((D.2.2.2 f h).1.symm.trans hi) J
  ·exact(I.2.2.2 f h).2.2.1
 ·obtain⟨f,hf,_⟩:=D.2.2.1
  exact⟨f,aJ.2 (.inl hf),(D.2.2.2 f hf).1⟩
 ·obtain⟨f,hf,_⟩:=I.2.2.1
  exact⟨f,aJ.2 (.inr hf),(I.2.2.2 f hf).1⟩
 ·rcases O with⟨a,b,c,d,_,_,e⟩|⟨a,b,c,_,_,d⟩|⟨a,b,c,_,_,d⟩
  ·exact .inl ⟨a,b,c,d,e⟩
  ·exact .inr (.inl ⟨a,b,c,d⟩)
  ·exact .inr (.inr ⟨a,b,c,d⟩)
theorem Qc {k:Nat} (hk:k<2) (hx:x<P.count) {q':Int} (h:Mp P S x k ag S' q' p q im st) (id left:Int) (hl:0<=left/\left<=1000000) (a8:0<=st.aw/\st.aw<=1000000):jf P (nH P id x k st left):=by
 have J:=h.fine.right;have I:∀j:Nat,j<2->(j:Int)+1=1\/(j:Int)+1=2:=fun j hj=>ae;have bc:1<=q:=h.fine.sb.next h.next
 have a0:=h.st;have hn:=h.next
 have bf:=h.q1;have ay:st.imp=im.isSome:=by rw[a0]
 have ep:st.ag=p:=by rw[a0]
 have ef:st.U=(dA P S' x (1 - k) im (min q' q)).2:=by rw[a0]
 have a2:∀f,f.inst<P.count->P.fy f.inst f.ag=0->FP f->zL P (oC f):=fun f h1 h2 h3=>by
  have h4:=J.ag h2;exact⟨⟨f.inst,rfl,h1⟩,⟨h4.1,h4.2.1⟩,h3.aw,h3.left⟩
 have ax:P.fy x p=0->zL P ⟨3,id,x,(k:Int)+1,st.ag,st.aw,left,0⟩:=fun h2=>by
  have h4:=J.ag h2;exact⟨⟨x,rfl,hx⟩,⟨by show -2000000<=st.ag;rw[ep];exact h4.1,by show st.ag<=2000000;rw[ep];exact h4.2.1⟩,a8,hl⟩
 unfold nH
 cases im with
 |none=>
  have ba:=Qa hn;have A:=C7 h.fine ba (t:=min q' q) ae ae;have a7:P.n<=x->(fg P x st).1 - (fg P x st).2=p/\P.fy (cy P.n x).1 (fg P x st).1=0/\P.fy (cy P.n x).2 (fg P x st).2=0:=fun D=>by
   have e:fg P x st=lu P x p:=by unfold fg;rw[ay,ep];rfl
   rw[e];exact S9 J D hx A.2.1
  refine jf.app (jf.flat fun f hf=>?_) (jT J (x:=x) rfl hx rfl (I k hk) (ax A.2.1) (fun D=>by rw[show(⟨3,id,x,(k:Int)+1,st.ag,st.aw,left,0⟩:ir).ag=p from ep];exact a7 D));rw[ef] at hf;obtain⟨a,b,c,d,bb⟩:=A.2.2.2 f hf;exact jT J (x:=x) (by show(f.inst:Int)=x;rw[a]) hx rfl (by show(f.k:Int)+1=1\/(f.k:Int)+1=2;rw[b];omega) (a2 f (a▸hx) (a▸c▸A.2.1) bb) (fun D=>by rw[show(oC f).ag=p from c];exact a7 D)
 |some y=>
  obtain⟨y1,y2,y3,y4,y5,y6⟩:=NQ (k:=1 - k) ae hn y rfl;have F:=Mt h.fine hx (k:=1 - k) ae y1 (t:=min q' q) ae ae;rw[<-ef] at F;obtain⟨p0,p1,w0,w1,f0,f1,g0,g1,a3⟩:=F.p;have O:∀f∈st.U,f.k<2:=fun f hf=>by
   rcases F.mem f hf with⟨_,b,_⟩|⟨_,b,_⟩<;>omega
  have a4:∀z,fg P z st=(jq st.U st.ag (cy P.n z).1,jq st.U st.ag (cy P.n z).2):=fun z=>by unfold fg;rw[ay];rfl
  have a5:∀f∈st.U,f.inst=y.i0->zL P (oC f):=fun f hf a=>a2 f (a▸F.i0) (by rw[a,f0 f hf a];exact w0) (F.fb f hf);have a6:∀f∈st.U,f.inst=y.i1->zL P (oC f):=fun f hf a=>a2 f (a▸F.i1) (by rw[a,f1 f hf a];exact w1) (F.fb f hf);have m0:jq st.U st.ag y.i0=p0:=FO f0 g0;have m1:jq st.U st.ag y.i1=p1:=FO f1 g1;rcases a3 with⟨c1,c2,c3,c4,c5⟩|⟨c1,c2,c3,c5⟩|⟨c1,c2,c3,c5⟩
  ·
   obtain⟨s1,s2,s3⟩:=J.spread c3 c4;have mx:jq st.U st.ag x=st.ag:=zA fun f hf=>by
    rcases F.mem f hf with⟨a,_⟩|⟨a,_⟩<;>omega
   refine jf.app (jf.flat fun f hf=>?_) (jT J (x:=x) rfl hx rfl (I k hk) (ax (y5▸y4)) (fun D=>ae));rcases F.mem f hf with⟨a,b,_⟩|⟨a,b,_⟩
   ·refine jT J (x:=y.i0) (by show(f.inst:Int)=_;rw[a]) F.i0 rfl (I _ (O f hf)) (a5 f hf a) (fun D=>?_)
    rw[a4,c2,s3];simp only;rw[mx,m1,show(oC f).ag=p0 from f0 f hf a,ep];exact⟨ae,y5▸y4,w1⟩
   ·exact jT J (x:=y.i1) (by show(f.inst:Int)=_;rw[a]) F.i1 rfl (I _ (O f hf)) (a6 f hf a) (fun D=>ae)
  ·obtain⟨s1,s2,s3⟩:=J.spread c3 c1
   have mx:jq st.U st.ag x=st.ag:=zA fun f hf=>by
    rcases F.mem f hf with⟨a,_⟩|⟨a,_⟩<;>omega
   refine jf.app (jf.flat fun f hf=>?_) (jT J (x:=x) rfl hx rfl (I k hk) (ax (y5▸y4)) (fun D=>ae));rcases F.mem f hf with⟨a,b,_⟩|⟨a,b,_⟩
   ·refine jT J (x:=y.i0) (by show(f.inst:Int)=_;rw[a]) F.i0 rfl (I _ (O f hf)) (a5 f hf a) (fun D=>?_)
    rw[a4,c2,s3];simp only;rw[mx,m1,show(oC f).ag=p0 from f0 f hf a,ep];exact⟨ae,w1,y5▸y4⟩
   ·exact jT J (x:=y.i1) (by show(f.inst:Int)=_;rw[a]) F.i1 rfl (I _ (O f hf)) (a6 f hf a) (fun D=>ae)
  ·obtain⟨l1,l2,_⟩:=J.RG c1 hx
   refine jf.app (jf.flat fun f hf=>?_) (jT J (x:=x) rfl hx rfl (I k hk) (ax (y5▸y4)) (fun D=>?_))
   ·rcases F.mem f hf with⟨a,b,_⟩|⟨a,b,_⟩
    ·exact jT J (x:=y.i0) (by show(f.inst:Int)=_;rw[a]) F.i0 rfl (I _ (O f hf)) (a5 f hf a) (fun D=>ae)
    ·exact jT J (x:=y.i1) (by show(f.inst:Int)=_;rw[a]) F.i1 rfl (I _ (O f hf)) (a6 f hf a) (fun D=>ae)
   ·rw[a4,<-c2,<-c3,m0,m1]
    simp only;exact⟨by rw[ep];omega,w0,w1⟩
theorem JW (x k:Nat) (ag:Int):∀(f:Nat) (S:Sm) (aw:Int),SB 1000000 S->∀st∈(dV P f S x k ag aw).2.1,0<=st.aw/\st.aw<=aw
 |0,S,aw,_,st,h=>by simp[dV] at h
 |f+1,S,aw,hS,st,h=>by
  unfold dV at h
  split at h
  ·simp at h
  ·rename_i hq
   split at h
   ·simp at h
   ·rename_i p q im hn
    have D:=hS.next hn
    split at h
    ·rcases a9.1 h with rfl|h
     ·exact⟨by show 0<=min aw q;omega,by show min aw q<=aw;omega⟩
     ·have:=JW x k ag f _ _ (hS.nT _ _ _ _) st h
      omega
    ·simp at h
theorem JX {P:PD} (x k:Nat) (ag:Int):∀(f:Nat) (S:Sm) (aw:Int),SB 1000000 S->0<=aw->((dV P f S x k ag aw).2.1.map (·.aw)).sum<=aw
 |0,S,aw,_,h=>by simp[dV];exact h
 |f+1,S,aw,hS,h=>by
  unfold dV
  split
  ·simpa using h
  ·split
   ·simpa using h
   ·rename_i p q im hn
    have D:=hS.next hn
    split
    ·have I:=JX (P:=P) x k ag f (dA P S x (1 - k) im (min aw q)).1 (aw - min aw q) (hS.nT _ _ _ _) ae
     simp only[aW,cN];omega
    ·simpa using h
theorem Db {k:Nat} (I:k<2) (hx:x<P.count) (id:Int):∀(l:List jz) (left:Int),(∀st∈l,∃S' q' p q im,Mp P S x k ag S' q' p q im st)->(∀st∈l,0<=st.aw/\st.aw<=1000000)->(l.map (·.aw)).sum<=left->left<=1000000->jf P (kj P id x k l left)
 |[],left,_,_,_,_=> .nil
 |st::l,left,h,hq,hs,hl=>by
  obtain⟨S',q',p,q,im,D⟩:=h st bT;have J:=hq st bT;have h2:0<=(l.map (·.aw)).sum:=by
   have:∀m:List jz,(∀s∈m,0<=s.aw)->0<=(m.map (·.aw)).sum:=fun m=>by
    induction m with
    |nil=>intro _;simp
    |cons a m O=>intro hm;have:=hm a bT;have:=O fun s hs=>hm s (by simp[hs]);simp only[aW,cN];omega
   exact this l fun s hs=>(hq s (by simp[hs])).1
  simp only[aW,cN] at hs;unfold kj;exact(Qc I hx D id _ ae J).app (Db I hx id l _ (fun s hs=>h s (by simp[hs])) (fun s hs=>hq s (by simp[hs])) ae ae)
theorem Dc (hS:pn P m.S) (id:Int) {k:Nat} (hk:k<2) (hx:x<P.count) (ag aw time:Int) (hw:P.fy x ag=0) (hq:0<=aw/\aw<=1000000):jf P (iE P m id x k ag aw time).2:=by
 have D:=hS.right.ag hw;have hs:=Db (S:=m.S) hk hx (ag:=ag) id (dV P aw.toNat m.S x k ag aw).2.1 aw (CW x k ag _ _ _ hS) (fun st J=>cA (JW x k ag _ _ _ hS.sb st J)) (JX x k ag _ _ _ hS.sb hq.1) hq.2;have O:jf P ((⟨1,id,x,(k:Int)+1,ag,aw,aw,0⟩:ir)::kj P id x k (dV P aw.toNat m.S x k ag aw).2.1 aw):= .one _ _ ⟨⟨x,rfl,hx⟩,⟨D.1,D.2.1⟩,hq,hq⟩ (.inl (by show(1:Int)≠3;omega)) hs;have I:=CZ (P:=P) x k ag aw.toNat m.S aw hS.sb hq.1;unfold iE;simp only
 split
 ·exact O
 ·split
  ·exact O
  ·exact O.app (.one _ [] ⟨⟨x,rfl,hx⟩,⟨D.1,D.2.1⟩,⟨I.1,by show(dV P aw.toNat m.S x k ag aw).2.2<=1000000;omega⟩,⟨cM _,by show(0:Int)<=1000000;omega⟩⟩ (.inl (by show(4:Int)≠3;omega)) .nil)
theorem nu (D:P.gZ) (id fy:Int):jf P (mH id fy):= .one _ [] ⟨⟨0,rfl,cA D.cnt⟩,⟨by show(-2000000:Int)<=0;omega,by show(0:Int)<=2000000;omega⟩,⟨cM _,by show(0:Int)<=1000000;omega⟩,⟨cM _,by show(0:Int)<=1000000;omega⟩⟩ (.inl (by show(2:Int)≠3;omega)) .nil
theorem U0 {x:Int} (h:P.oY x p=0):0<=x/\x.toNat<P.count/\P.fy x.toNat p=0:=by
 unfold PD.oY at h
 split at h
 ·cases h
 ·exact⟨ae,ae,h⟩
theorem U3 (hS:pn P m.S) (c:bN):jf P (pC P m c).2:=by
 unfold pC
 split
 ·exact nu hS.right _ _
 ·rename_i hr
  have hr:dx c=0:=by simpa using hr
  split
  ·rename_i D
   have J:=CY hr D;have a5:=J.side;unfold lW;simp only
   generalize(if c.time=3 then c.aw else c.least)=a6
   split
   ·exact nu hS.right _ _
   ·rename_i hw
    obtain⟨_,b,hw'⟩:=U0 (by simpa using hw)
    split
    ·exact nu hS.right _ _
    ·split
     ·exact nu hS.right _ _
     ·split
      ·exact nu hS.right _ _
      ·split
       ·exact nu hS.right _ _
       ·exact Dc hS _ ae b _ _ _ hw' (jE J.q1 J.q2)
  ·rename_i D
   split
   ·exact nu hS.right _ _
   ·rename_i x k p e hf
    obtain⟨M,hM,hk,r,O,h3,h4,h5⟩:=sJ hf;have hx:x<P.count:=by rw[<-hS.sn];exact(az.1 hM).1
    have heq:=(hS.xX x M hM).ok e (fX O h4);have he:1<=e.aw:=heq.1;have a0:P.fy x p=0:=h3▸hS.pr x k M r hM O;have I:=hS.right.ag a0;have ax:jf P (dG m c.id x k p e).2:= .one _ [] ⟨⟨x,rfl,hx⟩,⟨I.1,I.2.1⟩,⟨by show 0<=e.aw;omega,heq.2.1⟩,⟨cM _,by show(0:Int)<=1000000;omega⟩⟩ (.inl (by show(4:Int)≠3;omega)) .nil;have ay:∀q,0<=q->q<=e.aw->jf P (jh m c.id q x k p e).2:=fun q a2 a7=> .one _ [] ⟨⟨x,rfl,hx⟩,⟨I.1,I.2.1⟩,⟨a2,by show q<=1000000;omega⟩,⟨by show 0<=e.aw - q;omega,by show e.aw - q<=1000000;omega⟩⟩ (.inl (by show(5:Int)≠3;omega)) .nil
    split
    ·rename_i a3
     have hq:=sS hr D ae;unfold replaceM;simp only
     split
     ·exact nu hS.right _ _
     ·rename_i a4
      split
      ·rename_i a8
       exact ay _ ae ae
      ·split
       ·exact nu hS.right _ _
       ·exact ax.app (Dc (hS.less (iy.cutAt m.S x c.id e.aw ae)) _ hk hx _ _ _ (by simpa using a4) ae)
    ·split
     ·exact ax
     ·rename_i a3 ba
      have hq:=sS hr D ae;exact ay _ ae ae
theorem FQ {P:PD} (x k:Nat) (ag:Int):∀(f:Nat) (S:Sm) (aw:Int),SB 1000000 S->(0<=aw->0<=(dV P f S x k ag aw).2.2)/\(dV P f S x k ag aw).2.2<=aw
 |0,S,aw,_=>⟨fun h=>h,cM _⟩
 |f+1,S,aw,hS=>by
  unfold dV
  split
  ·exact⟨fun h=>h,cM _⟩
  ·split
   ·exact⟨fun h=>h,cM _⟩
   ·rename_i p q im hn
    split
    ·have I:=hS.next hn
     have D:=FQ (P:=P) x k ag f (dA P S x (1 - k) im (min aw q)).1 (aw - min aw q) (hS.nT _ _ _ _);exact⟨fun h=>D.1 ae,by have:=D.2;simp only at this⊢;omega⟩
    ·exact⟨fun h=>h,cM _⟩
structure vz (P:PD) (S:Sm) (c:bN) (S':Sm):Prop where
 ex:∃S1,iy S1 S∧(S'=S1∨(cK S1<250∧¬fI S1 c.id∧∃x k p q,k<2∧x<P.count∧P.fy x p=0∧1≤q∧q≤c.aw∧S'=oW S1 x k c.id p q))
theorem pn.gone (h:pn P S) (D:S[x]?=some M) (he:e∈M.I):¬fI (cutAt S x e.id e.aw) e.id/\cK (cutAt S x e.id e.aw)+1=cK S:=by
 have hb:=h.xX x M D;rw[nS D];constructor
 ·rintro⟨y,N,e',J,O,h3⟩
  rcases nX J with⟨rfl,rfl⟩|⟨ax,J⟩
  ·rw[iI] at O
   exact yJ hb.nd he rfl (cM _) e' O h3
  ·exact ax (h.uq _ _ _ _ _ _ J O D he h3)
 ·have h4:=lB D (M.cut e.id e.aw)
  have h5:=Ae hb.nd he rfl (cM e.aw);rw[<-iI] at h5;omega
theorem zB (hF:pn P m.S) (c:bN) (I:id=c.id) {k:Nat} (O:k<2) (hx:x<P.count) (hw:P.fy x ag=0) (hq:1<=aw) (ax:aw<=c.aw) (hc:cK m.S<250) (hs:¬fI m.S id):
  vz P m.S c (iE P m id x k ag aw time).1.S:=by
 have J:=iy.run P x k ag aw.toNat m.S aw;have D:=FQ (P:=P) x k ag aw.toNat m.S aw hF.sb;have h0:=D.1 ae;have h1:=D.2;have ay:=J.cnt;refine⟨⟨(dV P aw.toNat m.S x k ag aw).1,J,?_⟩⟩;unfold iE;simp only
 split
 ·exact .inl rfl
 ·split
  ·refine .inr ⟨ae,fun hh=>hs (I▸J.stands hh),x,k,ag,(dV P aw.toNat m.S x k ag aw).2.2,O,hx,hw,ae,ae,by rw[I]⟩
  ·exact .inl rfl
theorem vz.same {c:bN}:vz P S c S:=⟨⟨S,iy.refl S, .inl rfl⟩⟩
theorem vz.less {c:bN} (h:iy S' S):vz P S c S':=⟨⟨S',h, .inl rfl⟩⟩
theorem Ta (hF:pn P S) {k:Nat} (h:sX S id=some (x,k,p,e)):x<P.count/\k<2/\e.id=id/\1<=e.aw/\e.aw<=1000000/\P.fy x p=0/\At S x k p id/\∃M,S[x]?=some M/\e∈M.I:=by
 obtain⟨M,D,hk,r,hr,O,J,h5⟩:=sJ h;have hx:x<P.count:=by rw[<-hF.sn];exact(az.1 D).1
 have he:=(hF.xX x M D).ok e (fX hr J);exact⟨hx,hk,h5,he.1,he.2.1,O▸hF.pr x k M r D hr,⟨M,r,e,D,hr,O,J,h5⟩,M,D,fX hr J⟩
theorem U4 {x:Int} (h:P.oY x p=0):0<=x/\x.toNat<P.count/\P.fy x.toNat p=0:=by
 unfold PD.oY at h
 split at h
 ·cases h
 ·exact⟨ae,ae,h⟩
theorem Tb (hF:pn P m.S) (su:∀id,fI m.S id->m.used id=true) (c:bN):vz P m.S c (pC P m c).1.S:=by
 unfold pC
 split
 ·exact .same
 ·rename_i hr
  have hr:dx c=0:=by simpa using hr
  split
  ·rename_i D
   have hn:=CY hr D;have ay:=hn.side;unfold lW;simp only
   generalize(if c.time=3 then c.aw else c.least)=a0
   split
   ·exact .same
   ·rename_i hw
    obtain⟨w1,w2,w3⟩:=U4 (by simpa using hw)
    split
    ·exact .same
    ·rename_i hu
     split
     ·exact .same
     ·split
      ·exact .same
      ·split
       ·exact .same
       ·exact zB hF c rfl ae w2 w3 hn.q1 (cM _) ae (fun hs=>hu (su _ hs))
  ·rename_i D
   split
   ·exact .same
   ·rename_i x k p e hf
    obtain⟨hx,hk,I,a3,a4,hw,ha,M,hM,J⟩:=Ta hF hf;have hcut:iy (cutAt m.S x c.id e.aw) m.S:=iy.cutAt m.S x c.id e.aw ae
    split
    ·rename_i O
     have hq:=sS hr D ae;unfold replaceM;simp only
     split
     ·exact .same
     ·rename_i ax
      split
      ·rename_i a5
       exact .less (iy.cutAt _ _ _ _ ae)
      ·split
       ·exact .same
       ·have hg:=hF.gone hM J
        rw[I] at hg;have a6:=hF.cnt;obtain⟨S1,a1,a2⟩:=(zB (m:=(dG m c.id x k p e).1) (hF.less hcut) c rfl hk hx (time:=1) (by simpa using ax) hq.1 (cM _) (by show cK (cutAt m.S x c.id e.aw)<250;omega) hg.1).ex;exact⟨⟨S1,a1.trans hcut,a2⟩⟩
    ·rename_i O
     split
     ·exact .less hcut
     ·rename_i a7
      have hq:=sS hr D ae;exact .less (iy.cutAt _ _ _ _ ae)
theorem iy.sb (hF:∀(x:Nat) (M:BM),S'[x]?=some M->EE M) (h:iy S' S) (hS:SB c S):SB c S':=by
 refine⟨fun M I e he=>?_,fun M I k r hr=>?_⟩
 ·obtain⟨x,hx,rfl⟩:=kv.1 I
  have D:=aj hx;obtain⟨k,_,r,hr,J⟩:=FM he;obtain⟨O,b1,b2⟩:=h.sh x _ D;obtain⟨r0,c1,_,e0,c3,_,c5⟩:=b2.st k r e hr J;have:=hS.q O (aH b1) e0 (fX c1 c3);have:=(hF x _ D).ok e he;omega
 ·obtain⟨x,hx,rfl⟩:=kv.1 I
  exact GW (hF x _ (aj hx)) hr
theorem Tc {k:Nat}:∀{l:List iQ} {r:iQ},r∈mo k l p e->(r.2≠[])\/∃D∈l,D=r
 |[],r,h=>by simp[mo] at h;subst h;exact .inl bT
 |a::l,r,h=>by
  unfold mo at h
  split at h
  ·rcases a9.1 h with rfl|h
   ·exact .inr ⟨r,bT,rfl⟩
   ·rcases Tc h with h|⟨D,I,J⟩
    ·exact .inl h
    ·exact .inr ⟨D,by simp[I],J⟩
  ·split at h
   ·rcases a9.1 h with rfl|h
    ·exact .inl bT
    ·exact .inr ⟨r,by simp[h],rfl⟩
   ·rcases a9.1 h with rfl|h
    ·exact .inl bT
    ·exact .inr ⟨r,h,rfl⟩
theorem JY {k:Nat} (I:∀r∈l,r.2≠[]) (h:r∈jo k l id p q):r.2≠[]:=by
 unfold jo at h;rcases Tc h with h|⟨J,D,rfl⟩
 ·exact h
 ·split at D
  ·unfold yx at D
   obtain⟨r1,a1,rfl⟩:=aV.1 D;have:=I r1 a1;simpa using this
  ·exact I _ D
theorem P9.add (h:P9 c M) (k:Nat) (id p q:Int) (J:1<=q) (O:q<=c):P9 c (M.add k id p q):=by
 refine⟨fun e he=>?_,fun k' r hr=>?_⟩
 ·rcases Co he with⟨_,rfl⟩|⟨e0,a1,_,a3⟩
  ·exact⟨J,O⟩
  ·rw[<-a3];exact h.1 e0 a1
 ·have s0:∀r∈M.s0,r.2≠[]:=h.2 0
  have s1:∀r∈M.s1,r.2≠[]:=h.2 1
  by_cases I:k=0
  ·have e:M.add k id p q=⟨jo 0 M.s0 id p q,M.s1⟩:=by unfold BM.add;rw[if_pos I]
   rw[e] at hr
   by_cases D:k'=0
   ·unfold BM.side at hr;rw[if_pos D] at hr;exact JY s0 hr
   ·unfold BM.side at hr;rw[if_neg D] at hr;exact s1 r hr
  ·have e:M.add k id p q=⟨M.s0,jo 1 M.s1 id p q⟩:=by unfold BM.add;rw[if_neg I]
   rw[e] at hr
   by_cases D:k'=0
   ·unfold BM.side at hr;rw[if_pos D] at hr;exact s0 r hr
   ·unfold BM.side at hr;rw[if_neg D] at hr;exact JY s1 hr
theorem SB.oW (h:SB c S) (x k:Nat) (id p q:Int) (D:1<=q) (I:q<=c):SB c (oW S x k id p q):=by
 unfold Go.Proofs.YtbaaheidifacaaaGreat.oW
 split
 ·rename_i M J
  exact h.set x ((h.bm J).add k id p q D I)
 ·exact h
theorem Yg (hF:pn P m.S) (su:∀id,fI m.S id->m.used id=true) {y:bN} (J:y.aw<=c) (hS:SB c m.S):SB c (pC P m y).1.S:=by
 obtain⟨S1,a1,I⟩:=(Tb hF su y).ex;have D:=a1.sb (hF.less a1).xX hS;rcases I with e|⟨_,_,x,k,p,q,_,_,_,b1,O,e⟩
 ·rw[e];exact D
 ·rw[e];exact D.oW x k y.id p q b1 ae
theorem Qd {k:Nat}:1<=(iE P m id x k ag aw time).2.length:=by
 unfold iE;simp only
 repeat' split
 all_goals simp
theorem WX (P:PD) (m:Mk) (c:bN):1<=(pC P m c).2.length:=by
 unfold pC
 split
 ·simp[mH]
 ·split
  ·unfold lW
   simp only
   repeat' split
   all_goals first
    |exact Qd
    |simp[mH]
  ·split
   ·simp[mH]
   ·split
    ·unfold replaceM
     simp only
     repeat' split
     all_goals first
      |(simp[mH];done)
      |(simp[jh];done)
      |(simp only[aC];have D:∀x k p e,(dG m c.id x k p e).2.length=1:=fun _ _ _ _=>rfl;rw[D];omega)
    ·split
     ·simp[dG]
     ·simp[jh]
theorem Mx {x s pr le:Int} (h1:1<=id/\id<=1099511627776) (h2:0<=x/\x<=255) (h3:s=1\/s=2) (I:jg pr) (J:1<=q/\q<=1000000) (h6:0<=le/\le<=q) (h7:1<=t/\t<=3) (O:ky=[]\/Cd ky=true):dx ⟨1,id,x,s,pr,q,le,t,ky⟩=0:=by
 have D:kL q:=J;unfold dx wN;simp only;rw[if_neg ae,if_neg ae,if_pos trivial,if_neg ae,if_neg ae,if_neg (fun e=>e D),if_neg ae,if_neg (fun e=>by rcases O with h|h;exact e.1 h;rw[h] at e;exact absurd e.2 bT),if_neg (fun e=>e I),if_neg ae]
theorem My {kd x s pr le:Int} (O:2<=kd/\kd<=4) (h1:1<=id/\id<=1099511627776) (I:jg pr) (J:1<=q/\q<=1000000):dx ⟨kd,id,x,s,pr,q,le,t,ky⟩=0:=by
 have D:kL q:=J;unfold dx;simp only;rw[if_neg ae,if_neg ae,if_neg ae,if_neg (fun e=>e.2 D),if_neg (fun e=>e.2 I)]
inductive Mz (P:PD) (i:Nat):bN→Prop
 |new (x s a q le t:Int):0≤x→x<P.count→0≤s→s≤1→0≤a→a≤9→1≤q→q≤12→0≤le→le≤q→1≤t→t≤3→Mz P i ⟨1,(i:Int)+1,x,1+s,if x<P.n then P.tick*a+8*P.tick else P.tick*a - 4*P.tick,q,le,t,[]⟩
 |QI (kd id a q:Int):2≤kd→kd≤4→1≤id→id≤31→0≤a→a≤9→1≤q→q≤12→Mz P i ⟨kd,id,0,0,if kd=4 then P.tick*a+5*P.tick else P.tick*a,q,0,0,[]⟩
theorem Tj (O:P.gZ) (c:bN) (i:Nat):Mz P i (rB P c i):=by
 have hc:=O.cnt;have b0:=cW c.kind 0 8 ae;have b1:=cW c.id 0 30 ae;have b2:=cW c.inst 0 ((P.count:Int) - 1) ae;have I:=cW c.side 0 1 ae;have D:=cW c.ag 0 9 ae;have b5:=cW c.aw 0 11 ae;have b6:=cW c.least 0 (1+within c.aw 0 11) ae;unfold rB;simp only
 split
 ·have hle:0<=(if c.least.tmod 4=1 then within c.least 0 (1+within c.aw 0 11) else 0)/\(if c.least.tmod 4=1 then within c.least 0 (1+within c.aw 0 11) else 0)<=1+within c.aw 0 11:=by split<;>omega
  have J:1<=(if c.time.tmod 5=3 then (3:Int) else if c.time.tmod 5=2 then 2 else 1)/\(if c.time.tmod 5=3 then (3:Int) else if c.time.tmod 5=2 then 2 else 1)<=3:=by
   split
   ·omega
   ·split<;>omega
  exact .new _ _ (within c.ag 0 9) _ _ _ b2.1 ae I.1 I.2 D.1 D.2 ae ae hle.1 hle.2 J.1 J.2
 ·exact .QI _ _ (within c.ag 0 9) _ ae ae ae ae D.1 D.2 ae ae
theorem J2 (I:1<=t/\t<=1000) (ha:0<=a/\a<=9):0<=t*a/\t*a<=9000:=by
 have D:0<=t*a:=jG ae ae;have J:t*a<=1000*9:=tA ae ae ae ae;exact⟨D,ae⟩
structure wZ (P:PD) (i:Nat) (c:bN):Prop where
 id:1≤c.id∧c.id≤31∨c.kind=1∧c.id=(i:Int)+1
 kd:1≤c.kind∧c.kind≤4
 inst:0≤c.inst∧c.inst<P.count
 side:c.kind=1→c.side=1∨c.side=2
 Y7:c.kind≠1→c.side=0
 ag: -17000≤c.ag∧c.ag≤17000
 aw:1≤c.aw∧c.aw≤12
 least:0≤c.least∧c.least≤c.aw
 time:c.kind=1→1≤c.time∧c.time≤3
 ky:c.ky=[]
theorem U5 (D:P.gZ) (c:bN) (i:Nat):wZ P i (rB P c i):=by
 have ht:1<=P.tick/\P.tick<=1000:=⟨D.BO,D.EH⟩;have hc:=D.cnt;have hT:=Tj D c i
 generalize rB P c i=y at hT
 cases hT with
 |new x s a q le t h1 I h3 h4 J O h7 h8 h9 ax ay a0=>
  have hm:=J2 ht ⟨J,O⟩;refine⟨.inr ⟨rfl,rfl⟩,⟨by show(1:Int)<=1;omega,by show(1:Int)<=4;omega⟩,⟨h1,I⟩,fun _=>by show 1+s=1\/1+s=2;omega,fun h=>absurd rfl h,?_,⟨h7,h8⟩,⟨h9,ax⟩,fun _=>⟨ay,a0⟩,rfl⟩;show -17000<=(if x<P.n then P.tick*a+8*P.tick else P.tick*a - 4*P.tick)/\(if x<P.n then P.tick*a+8*P.tick else P.tick*a - 4*P.tick)<=17000
  split<;>omega
 |QI kd id a q h1 I h3 h4 J O h7 h8=>
  have hm:=J2 ht ⟨J,O⟩;refine⟨.inl ⟨h3,h4⟩,⟨by show 1<=kd;omega,I⟩,⟨cM _,by show(0:Int)<P.count;omega⟩,fun h=>absurd h (by show kd≠1;omega),fun _=>rfl,?_,⟨h7,h8⟩,⟨cM _,by show(0:Int)<=q;omega⟩,fun h=>absurd h (by show kd≠1;omega),rfl⟩;show -17000<=(if kd=4 then P.tick*a+5*P.tick else P.tick*a)/\(if kd=4 then P.tick*a+5*P.tick else P.tick*a)<=17000
  split<;>omega
theorem wZ.right {c:bN} (h:wZ P i c) (hi:i<=1000) (hP:P.gZ) {side least:Int} (I:1<=id/\id<=1099511627776) (h2:c.kind=1->side=1\/side=2) (J:jg ag) (O:1<=aw/\aw<=1000000) (h5:0<=least/\least<=aw) (h6:ky=[]\/Cd ky=true):
  dx ⟨c.kind,id,c.inst,side,ag,aw,least,c.time,ky⟩=0:=by
 by_cases D:c.kind=1
 ·rw[D]
  have hc:=hP.cnt;have:=h.inst;exact Mx I ae (h2 D) J O h5 (h.time D) h6
 ·have:=h.kd
  exact My ae I J O
theorem wZ.Y8 {c:bN} (h:wZ P i c):1<=c.id/\(c.id<=31\/c.id=(i:Int)+1):=by
 rcases h.id with h|h
 ·exact⟨h.1, .inl h.2⟩
 ·exact⟨ae, .inr h.2⟩
theorem wZ.WY {c:bN} (h:wZ P i c) (hi:i<=1000) (D:P.gZ):dx c=0:=by
 have I:=h.Y8;have:=h.right hi D (id:=c.id) (side:=c.side) (ag:=c.ag) (aw:=c.aw) (least:=c.least) (ky:=c.ky) ae h.side ⟨cA h.ag,cA h.ag⟩ (cA h.aw) h.least (.inl h.ky);exact this
theorem Qi {l:List bN} {k:Nat} {x:bN} (h:(js P l n)[k]?=some x):k<n/\∃c,l[k]?=some c/\x=rB P c k:=by
 unfold js at h;rw[bo] at h
 cases D:(l.take n).zipIdx[k]? with
 |none=>rw[D] at h;cases h
 |some y=>
  rw[D] at h;injection h with h;rw[List.getElem?_zipIdx] at D
  cases I:(l.take n)[k]? with
  |none=>rw[I] at D;cases D
  |some c=>
   rw[I] at D;simp at D;rw[DV] at I
   split at I
   ·rename_i J
    refine⟨J,c,I,?_⟩;rw[<-h,<-D]
   ·cases I
theorem Tk (D:P.gZ) {l:List bN} {k:Nat} {x:bN} (h:(js P l n)[k]?=some x):k<n/\wZ P k x:=by
 obtain⟨I,c,_,rfl⟩:=Qi h;exact⟨I,U5 D c k⟩
theorem MA (P:PD) (l:List bN) (n:Nat):(js P l n).length<=n:=by
 unfold js;simp;omega
theorem NW {R:bN->bN->Prop}:∀{l l':List bN},l.length=l'.length->(∀(i:Nat) (y y':bN),l[i]?=some y->l'[i]?=some y'->R y y')->WW R l l'
 |[],[],_,_=>trivial
 |[],b::l',h,_=>by simp at h
 |a::l,[],h,_=>by simp at h
 |a::l,b::l',h,hr=>⟨hr 0 a b rfl rfl,NW (by simpa using h) fun i y y' D I=>hr (i+1) y y' D I⟩
structure Tl (P:PD) (l:List bN):Prop where
 f:∀n,pn P (runM P (Mk.new P) (l.take n)).1.S
 su:∀n id,fI (runM P (Mk.new P) (l.take n)).1.S id→(runM P (Mk.new P) (l.take n)).1.used id=true
 t:∀(i:Nat) (y:bN),l[i]?=some y→i≤1000∧wZ P i y
theorem Tl.sb {l:List bN} (h:Tl P l):∀n,SB 12 (runM P (Mk.new P) (l.take n)).1.S:=fun n=>by
 induction n with
 |zero=>
  rw[QA];unfold runM Mk.new;refine⟨fun M D e he=>?_,fun M D k r hr=>?_⟩
  ·simp only at D
   obtain⟨_,rfl⟩:=tx.1 D;simp[BM.I,gY] at he
  ·simp only at D
   obtain⟨_,rfl⟩:=tx.1 D;unfold BM.side at hr
   split at hr<;>simp at hr
 |succ n J=>
  cases hq:l[n]? with
  |none=>
   have:l.length<=n:=List.getElem?_eq_none_iff.1 hq;rw[aL ae];rw[aL ae] at J;exact J
  |some q=>
   rw[bC,hq];simp only[tB];rw[Ch];simp only[runM];exact Yg (h.f n) (h.su n) (h.t n q hq).2.aw.2 J
theorem Tf.law {T:Tf} (O:T.Ok) (I:T.Pr P P') (hR:P.gZ) {l l':List bN} (h:Tl P l) (hb:T.b*12<=1000000) (hl:l.length=l'.length)
  (hr:∀(i:Nat) (y y':bN),l[i]?=some y->l'[i]?=some y'->∃ky,y'=T.cmd y ky/\dx y'=0):
  (runM P' (Mk.new P') l').2=(runM P (Mk.new P) l).2.map T.rep:=by
 have:=Tf.runs O I hb l l' (Mk.new P) (NW hl fun i y y' J h2=>by
  obtain⟨ky,e,h3⟩:=hr i y y' J h2;have D:=h.t i y J;exact⟨D.2.WY D.1 hR,h3,D.2.side,ky,e⟩) (fun n=>⟨h.sb n,(h.f n).nd⟩)
 rw[T.UX I] at this;rw[this]
def oP (s:Int):Int:=if s=1∨s=2 then 3 - s else s
def DU (P:PD):PD:={P with low:= -P.high,high:= -P.low,settle:=P.settle.map (fun x=> -x)}
def De (y:bN):bN:={y with ag:= -y.ag,side:=oP y.side}
def tj (r:ir):ir:={r with ag:= -r.ag,side:=oP r.side}
theorem MB (h:P.gZ):(DU P).gZ:=by
 have I:=h.I7;have J:=h.zl;have O:=h.lh;have h4:=h.E5;exact⟨h.code,h.n2,h.n6,h.YJ,h.inc,h.BO,h.EH,Kk.2 h.Nr,Kk.2 h.Uh,h.RF,
  fun x hx=>by
   obtain⟨y,D,rfl⟩:=aV.1 hx;obtain⟨a,b,c⟩:=h.KY y D;exact⟨Kk.2 a,by show -P.high<= -y;omega,by show -y<= -P.low;omega⟩,
  by show(P.settle.map _).length=_;rw[br];exact h.vI,by show -1000000<= -P.high;omega,by show -P.high< -P.low;omega,by show -P.low<=1000000;omega,h.EK,by show P.wide<= -P.low - -P.high;omega,
  h.I8,h.I9,h.yB,h.Wt,h.BP,h.KZ,h.Ja,h.Jb⟩
def xa:Tf:=⟨true,1,1,0⟩
theorem U6:xa.Ok:=⟨by show(1:Int)<=1;omega,by show(1:Int)<=1;omega⟩
theorem ye (p:Int):xa.pr p= -p:=by show -(1*p)= -p;rw[qW]
theorem U7 (h:P.gZ):xa.Pr P (DU P):=by
 have hn:0<P.n:=cA h.cnt;have D:∀x,(DU P).lo x= -P.hi x:=fun x=>by
  unfold PD.lo PD.hi;show(if x<P.n then -P.high else -P.wide)=_
  split<;>rfl
 have I:∀x,(DU P).hi x= -P.lo x:=fun x=>by
  unfold PD.lo PD.hi;show(if x<P.n then -P.low else P.wide)=_
  split
  ·rfl
  ·rw[Int.neg_neg]
 refine⟨rfl,by show P.tick=1*P.tick;rw[qW],fun x=>?_,fun x=>?_,?_,?_,?_,?_,Int.le_of_lt h.lh,fun j=>?_,rfl,rfl,rfl,rfl, .inl rfl,fun x hx _=>?_,h.BO⟩
 ·rw[if_pos (show xa.zx=true from rfl),D,ye]
 ·rw[if_pos (show xa.zx=true from rfl),I,ye]
 ·rw[D];show -P.high= -P.hi 0;unfold PD.hi;rw[if_pos hn]
 ·rw[I];show -P.low= -P.lo 0;unfold PD.lo;rw[if_pos hn]
 ·unfold PD.lo;rw[if_pos hn]
 ·unfold PD.hi;rw[if_pos hn]
 ·rw[ye]
  show(P.settle.map _).getD j 0=_;rw[jI,jI,bo]
  cases P.settle[j]? <;>simp
 ·unfold PD.lo PD.hi
  rw[if_neg ae,if_neg ae];exact⟨rfl,rfl⟩
theorem Tm (y:bN):xa.cmd y y.ky=De y:=by
 unfold Tf.cmd De;rw[ye];show(⟨y.kind,y.id+0,y.inst,xa.sd y.side, -y.ag,1*y.aw,1*y.least,y.time,y.ky⟩:bN)=_;rw[Hf,qW,qW];unfold Tf.sd oP;have:(xa.zx=true)=True:=by simp[xa]
 simp only[this,true_and]
theorem Tn (r:ir):tj (xa.rep r)=r:=by
 obtain⟨k,id,inst,side,ag,aw,left,fy⟩:=r;unfold tj Tf.rep;simp only;rw[ye,Int.neg_neg];show(⟨k,id+0,inst,oP (xa.sd side),ag,1*aw,1*left,fy⟩:ir)=_;rw[Hf,qW,qW];have:oP (xa.sd side)=side:=by
  unfold Tf.sd oP;have:(xa.zx=true)=True:=by simp[xa]
  simp only[this,true_and]
  by_cases hs:side=1\/side=2
  ·rw[if_pos hs,if_pos ae];omega
  ·rw[if_neg hs,if_neg hs]
 rw[this]
theorem U8 (hR:P.gZ) {l:List bN} (h:Tl P l):(runM (DU P) (Mk.new (DU P)) (l.map De)).2.map tj=(runM P (Mk.new P) l).2:=by
 rw[Tf.law U6 (U7 hR) hR h (by show(1:Int)*12<=1000000;omega) (by rw[br]) fun i y y' J I=>?_]
 ·rw[di]
  have:(tj∘xa.rep)=id:=funext Tn;rw[this,List.map_id]
 ·rw[bo,J] at I
  injection I with I;refine⟨y.ky,by rw[Tm,<-I],?_⟩;obtain⟨hi,D⟩:=h.t i y J;have O:=D.Y8;have hp:=D.ag;rw[<-I];exact D.right hi hR ae (fun hk=>by show oP y.side=1\/oP y.side=2;unfold oP;have:=D.side hk;split<;>omega) ⟨by show -2000000<= -y.ag;omega,by show -y.ag<=2000000;omega⟩ (cA D.aw) D.least (.inl D.ky)
theorem J4:∀{l:List bN} {m:Mk} {r:ir},r∈(runM P m l).2->∃n c,l[n]?=some c/\r∈(pC P (runM P m (l.take n)).1 c).2
 |[],m,r,h=>by simp[runM] at h
 |c::l,m,r,h=>by
  unfold runM at h;rcases aJ.1 h with h|h
  ·exact⟨0,c,rfl,h⟩
  ·obtain⟨n,d,D,I⟩:=J4 h
   exact⟨n+1,d,D,I⟩
theorem To {l:List bN} (h:∀n,pn P (runM P (Mk.new P) (l.take n)).1.S) {r:ir} (hr:r∈(runM P (Mk.new P) l).2):zL P r:=by
 obtain⟨n,c,I,D⟩:=J4 hr;exact(U3 (h n) c).all r D
def tq:PD:=gV 2
def Tx:vJ×List sN:=yb tq (vJ.new tq) 0 (oL ⟨1,1,3,2,5,4,0,1,[]⟩)
def Hb:vJ×List sN:=yb tq Tx.1 1 (oL ⟨1,2,1,2,500,6,0,1,[]⟩)
def Hc:vJ×List sN:=yb tq Hb.1 2 (oL ⟨1,3,0,1,505,9,0,1,[]⟩)
theorem Ty:Tx.2.length=1:=by kernel_rfl
theorem Tz:Hb.2.length=1:=by kernel_rfl
theorem J6:Hc.2.length=6:=by kernel_rfl
theorem Qs:Hc.2[5]?=some ⟨2,⟨3,3,0,1,505,4,5,0⟩⟩:=by kernel_rfl
theorem yV:(vJ.new tq).m.un=0/\Tx.1.m.un=1/\Hb.1.m.un=2/\(vJ.new tq).on=0/\Tx.1.on=1/\Hb.1.on=2:=⟨by kernel_rfl,by kernel_rfl,by kernel_rfl,by kernel_rfl,by kernel_rfl,by kernel_rfl⟩
theorem Dt:(gw 0 (oL ⟨1,1,3,2,5,4,0,1,[]⟩)).2=0/\(gw 1 (oL ⟨1,2,1,2,500,6,0,1,[]⟩)).2=0/\(gw 2 (oL ⟨1,3,0,1,505,9,0,1,[]⟩)).2=0:=⟨by kernel_rfl,by kernel_rfl,by kernel_rfl⟩
theorem Hd:(gw 0 (oL ⟨1,1,3,2,5,4,0,1,[]⟩)).1.aw=4/\(gw 1 (oL ⟨1,2,1,2,500,6,0,1,[]⟩)).1.aw=6/\(gw 2 (oL ⟨1,3,0,1,505,9,0,1,[]⟩)).1.aw=9:=⟨by kernel_rfl,by kernel_rfl,by kernel_rfl⟩
theorem J7 (S:Sm):kN tq S=(kK tq S 0 0,kK tq S 0 1)::(kN tq S).tail:=by kernel_rfl
theorem Qu:(kK tq Hb.1.m.S 0 0).lv=[]:=by kernel_rfl
theorem TA:(kK tq Hc.1.m.S 0 0).lv.length=1:=by kernel_rfl
theorem Qv:0<wj (kN tq Hb.1.m.S) (kN tq Hc.1.m.S):=by
 rw[J7 Hb.1.m.S,J7 Hc.1.m.S];unfold wj;rw[List.zip_cons_cons,aW,cN];have h:1<=jR 0 (kK tq Hb.1.m.S 0 0) (kK tq Hc.1.m.S 0 0):=by
  unfold jR;rw[Qu,je,TA];omega
 simp only;omega
end Go.Proofs.YtbaaheidifacaaaGreat
