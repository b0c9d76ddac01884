import Derived.Test.YtbaaheidifacaaaGreatQBook10
import Derived.Test.YtbaaheidifacaaaGreatQCmdP
set_option linter.defProp false
set_option linter.unusedVariables false
set_option linter.unusedSimpArgs false
set_option maxRecDepth 100000
set_option maxHeartbeats 12800000
namespace Go.Proofs.YtbaaheidifacaaaGreat
variable {A:Option Addr} {G R:Nat→Prop} {M M':BM} {P:PD} {S S':Sm} {b i j k n s x y:Nat} {bs:List Nat} {c:bN} {e e':dn} {f:fG} {f':Int→Option Value} {fl:List fG} {id left p ag q aw t time:Int} {im:Option Qt} {l:List iQ} {ky:List UInt8} {r:iQ} {st:jz} {w w':World}
open Go.RowKit
@[ext] structure ir where
  kind:Int
  id:Int
  inst:Int
  side:Int
  ag:Int
  aw:Int
  left:Int
  fy:Int
variable {r':ir}
structure Mk where
 S:Sm
 used:Int→Bool
 un:Nat
variable {m:Mk}
def Mk.new (P:PD):Mk:=⟨List.replicate P.count ⟨[],[]⟩,fun _=>false,0⟩
def cK (S:Sm):Nat:=(S.map fun M=>M.I.length).sum
def np (l:List iQ) (id:Int):Option (Int×dn):=l.findSome? fun r=>(r.2.find? fun e=>e.id==id).map fun e=>(r.1,e)
def uy (M:BM) (id:Int):Option (Nat×Int×dn):=match np M.s0 id with|some r=>some (0,r)|none=>(np M.s1 id).map fun r=>(1,r)
def sX (S:Sm) (id:Int):Option (Nat×Nat×Int×dn):=(List.range S.length).findSome? fun x=>(S[x]?.bind fun M=>uy M id).map fun r=>(x,r)
def cutAt (S:Sm) (x:Nat) (id q:Int):Sm:=match S[x]? with|some M=>S.set x (M.cut id q)|none=>S
def oW (S:Sm) (x k:Nat) (id p q:Int):Sm:=match S[x]? with|some M=>S.set x (M.add k id p q)|none=>S
def mH (id fy:Int):List ir:=[⟨2,id,0,0,0,0,0,fy⟩]
def lu (P:PD) (x:Nat) (ag:Int):Int×Int:=
 let far:=P.settle.getD (cy P.n x).2 0
 let a:=if P.high<far+ag then (P.high,P.high - ag) else (far+ag,far)
 if a.1<P.low then (P.low,P.low - ag) else a
def jq (fl:List fG) (ag:Int) (month:Nat):Int:=match fl.find? fun f=>f.inst==month with|some f=>f.ag|none=>ag
def fg (P:PD) (x:Nat) (st:jz):Int×Int:=
 if st.imp=true then (jq st.U st.ag (cy P.n x).1,jq st.U st.ag (cy P.n x).2) else lu P x st.ag
def nW (P:PD) (r:ir) (near far:Int):List ir:=
 [{r with inst:=((cy P.n r.inst.toNat).1:Int),ag:=near},{r with inst:=((cy P.n r.inst.toNat).2:Int),side:=3 - r.side,ag:=far}]
def lz (P:PD) (st:jz) (r:ir):List ir:=
 if r.inst.toNat<P.n then [r] else r::nW P r (fg P r.inst.toNat st).1 (fg P r.inst.toNat st).2
def oC (f:fG):ir:=⟨3,f.id,f.inst,(f.k:Int)+1,f.ag,f.aw,f.left,0⟩
def nH (P:PD) (id:Int) (x k:Nat) (st:jz) (left:Int):List ir:=
 st.U.flatMap (fun f=>lz P st (oC f))++lz P st ⟨3,id,x,(k:Int)+1,st.ag,st.aw,left,0⟩
def kj (P:PD) (id:Int) (x k:Nat):List jz→Int→List ir
 |[],_=>[]
 |st::l,left=>nH P id x k st (left - st.aw)++kj P id x k l (left - st.aw)
def iE (P:PD) (m:Mk) (id:Int) (x k:Nat) (ag aw time:Int):Mk×List ir:=
 let u:Int→Bool:=fun y=>if y=id then true else m.used y
 let n:=if m.used id=true then m.un else m.un+1
 let r:=dV P aw.toNat m.S x k ag aw
 let oq:=⟨1,id,x,(k:Int)+1,ag,aw,aw,0⟩::kj P id x k r.2.1 aw
 if r.2.2=0 then (⟨r.1,u,n⟩,oq)
 else if time=1 then (⟨oW r.1 x k id ag r.2.2,u,n⟩,oq)
 else (⟨r.1,u,n⟩,oq++[⟨4,id,x,(k:Int)+1,ag,r.2.2,0,0⟩])
def lW (P:PD) (m:Mk) (c:bN):Mk×List ir:=
 let k:=(c.side - 1).toNat
 let x:=c.inst.toNat
 let least:=if c.time=3 then c.aw else c.least
 if P.oY c.inst c.ag≠0 then (m,mH c.id (P.oY c.inst c.ag))
 else if m.used c.id=true then (m,mH c.id 25)
 else if 250≤cK m.S then (m,mH c.id 13)
 else if 0<least∧ng P m.S x k c.ag c.aw<least then (m,mH c.id 28)
 else if c.time=1∧lV P m.S x k c.ag c.aw=true then (m,mH c.id 23)
 else iE P m c.id x k c.ag c.aw c.time
def dG (m:Mk) (id:Int) (x k:Nat) (p:Int) (e:dn):Mk×List ir:=({m with S:=cutAt m.S x id e.aw},[⟨4,id,x,(k:Int)+1,p,e.aw,0,0⟩])
def jh (m:Mk) (id aw:Int) (x k:Nat) (p:Int) (e:dn):Mk×List ir:=({m with S:=cutAt m.S x id aw},[⟨5,id,x,(k:Int)+1,p,aw,e.aw - aw,0⟩])
def replaceM (P:PD) (m:Mk) (c:bN) (x k:Nat) (p:Int) (e:dn):Mk×List ir:=
 if P.fy x c.ag≠0 then (m,mH c.id (P.fy x c.ag))
 else if c.ag=p∧c.aw≤e.aw then jh m c.id (e.aw - c.aw) x k p e
 else if lV P (cutAt m.S x c.id e.aw) x k c.ag c.aw=true then (m,mH c.id 23)
 else
  let r:=iE P (dG m c.id x k p e).1 c.id x k c.ag c.aw 1
  (r.1,(dG m c.id x k p e).2++r.2)
def pC (P:PD) (m:Mk) (c:bN):Mk×List ir:=
 if dx c≠0 then (m,mH c.id (dx c:Nat))
 else if c.kind=1 then lW P m c
 else match sX m.S c.id with
  |none=>(m,mH c.id 26)
  |some (x,k,p,e)=>
   if c.kind=4 then replaceM P m c x k p e
   else if c.kind=2∨e.aw≤c.aw then dG m c.id x k p e
   else jh m c.id c.aw x k p e
def zn (n t wi ru top le pa:Int):PD:=
 ⟨[206,169],(List.range n.toNat).map (fun i:Nat=>10*(i:Int)+3),t, -20*t,100*t,t*(5+wi),ru,top,le,pa,(List.range n.toNat).map (fun i:Nat=>t*(10+(i:Int)))⟩
def Gr (mn ti wi ru top le pa:Int):PD:=zn (2+within mn 0 3) (1+within ti 0 9) (within wi 0 60) (1+within ru 0 2) (within top 0 9) (1+within le 0 4) (within pa 0 100)
def gV (ru:Int):PD:=⟨[67,76],[320,321,323],5,0,1000,200,ru,4,2,40,[500,505,490]⟩
theorem Jj {n wi ru top le pa:Int} (hn:2<=n/\n<=5) (I:1<=t/\t<=10) (hw:0<=wi/\wi<=60) (hr:1<=ru/\ru<=3) (hp:0<=top/\top<=9) (J:1<=le/\le<=5) (ha:0<=pa/\pa<=100):(zn n t wi ru top le pa).gZ:=by
 have O:5*t<=t*(5+wi):=by rw[lM 5 t];exact gh ae ae
 have ax:t*(5+wi)<=65*t:=by rw[lM 65 t];exact gh ae ae
 have hlen:(zn n t wi ru top le pa).E.length=n.toNat:=by simp[zn]
 have D:(zn n t wi ru top le pa).settle.length=n.toNat:=by simp[zn]
 refine⟨.inl rfl,by rw[hlen];omega,by rw[hlen];omega,fun m hm=>?_,?_,by exact I.1,by show t<=1000;omega,?_,?_,?_,fun x hx=>?_,by rw[hlen,D],?_,?_,?_,?_,?_,hr.1,hr.2,hp.1,?_,J.1,?_,ha.1,ha.2⟩
 ·obtain⟨i,hi,rfl⟩:=aV.1 hm
  have:=iT.1 hi;omega
 ·show((List.range n.toNat).map fun i:Nat=>10*(i:Int)+3).Pairwise (· < ·)
  rw[vF];exact List.pairwise_lt_range.imp (fun h=>ae)
 ·exact⟨-20,by show -20*t=t* -20;omega⟩
 ·exact⟨100,by show 100*t=t*100;omega⟩
 ·exact⟨5+wi,rfl⟩
 ·obtain⟨i,hi,rfl⟩:=aV.1 hx
  have hi:=iT.1 hi;have e1:10*t<=t*(10+(i:Int)):=by rw[lM 10 t];exact gh ae ae
  have e2:t*(10+(i:Int))<=15*t:=by rw[lM 15 t];exact gh ae ae
  exact⟨⟨_,rfl⟩,by show -20*t<=_;omega,by show _<=100*t;omega⟩
 ·show -1000000<= -20*t;omega
 ·show -20*t<100*t;omega
 ·show 100*t<=1000000;omega
 ·show 0<=t*(5+wi);omega
 ·show t*(5+wi)<=100*t - -20*t;omega
 ·show top<=1000000;omega
 ·show le<=1000;omega
theorem Gt (mn ti wi ru top le pa:Int):(Gr mn ti wi ru top le pa).gZ:=by
 have D:=cW mn 0 3 ae;have I:=cW ti 0 9 ae;have J:=cW wi 0 60 ae;have O:=cW ru 0 2 ae;have h5:=cW top 0 9 ae;have h6:=cW le 0 4 ae;have h7:=cW pa 0 100 ae;exact Jj ae ae ae ae ae ae ae
theorem Gu {ru:Int} (h:1<=ru/\ru<=3):(gV ru).gZ:=by
 refine⟨.inr rfl,by simp[gV],by simp[gV],by simp[gV],by simp[gV],by simp[gV],by simp[gV],by simp[gV],by simp[gV],by simp[gV],?_,rfl,by simp[gV],by simp[gV],by simp[gV],by simp[gV],by simp[gV],h.1,h.2,by simp[gV],by simp[gV],by simp[gV],by simp[gV],by simp[gV],by simp[gV]⟩;intro x hx;simp[gV] at hx;rcases hx with rfl|rfl|rfl<;>simp[gV]
def rB (P:PD) (c:bN) (i:Nat):bN:=
 let kd:=1+within c.kind 0 8
 let aw:=1+within c.aw 0 11
 let pr:=P.tick*within c.ag 0 9
 let x:=within c.inst 0 ((P.count:Int) - 1)
 if kd=1∨4<kd then
  ⟨1,(i:Int)+1,x,1+within c.side 0 1,if x<P.n then pr+8*P.tick else pr - 4*P.tick,aw,if c.least.tmod 4=1 then within c.least 0 aw else 0,if c.time.tmod 5=3 then 3 else if c.time.tmod 5=2 then 2 else 1,[]⟩
 else ⟨kd,1+within c.id 0 30,0,0,if kd=4 then pr+5*P.tick else pr,aw,0,0,[]⟩
theorem Fe (id q:Int):∀l:List iQ,gY (kZ id q l)=(gY l).filterMap (fS id q)
 |[]=>rfl
 |r::l=>by
  have D:=Fe id q l;unfold gY kZ at D⊢;simp only[aW,bj,qh,gN]
  by_cases h:(yy id q r).2.isEmpty=true
  ·have I:List.filterMap (fS id q) r.2=[]:=by simpa[yy] using h
   simp only[h,TE,dm,if_false,I,List.nil_append];exact D
  ·have J:(yy id q r).2.isEmpty=false:=by simpa using h
   simp only[J,Bool.not_false,if_true,bj];rw[D];rfl
theorem iI (M:BM) (id q:Int):(M.cut id q).I=M.I.filterMap (fS id q):=by
 unfold BM.I BM.cut;simp only[Fe,qh]
theorem pT {l:List dn} (h:e∈l.filterMap (fS id q)):∃I∈l,I.id=e.id/\I.top=e.top/\(I.id≠id->e=I)/\(I.id=id->q<I.aw/\e={I with aw:=I.aw - q}):=by
 obtain⟨I,O,D⟩:=ee.1 h;refine⟨I,O,(ve D).1.symm,(ve D).2.symm,fun J=>?_,fun J=>?_⟩
 ·unfold fS at D
  rw[if_neg J] at D;injection D with D;exact D.symm
 ·unfold fS at D
  rw[if_pos J] at D
  split at D
  ·cases D
  ·injection D with D
   exact⟨ae,D.symm⟩
theorem R9 {l:List dn} (h:e∈l) (hq:e.id=id->q<e.aw):∃e'∈l.filterMap (fS id q),e'.id=e.id:=by
 by_cases D:e.id=id
 ·exact⟨{e with aw:=e.aw - q},ee.2 ⟨e,h,by unfold fS;rw[if_pos D,if_neg (cA (hq D))]⟩,rfl⟩
 ·exact⟨e,ee.2 ⟨e,h,by unfold fS;rw[if_neg D]⟩,rfl⟩
theorem uB:∀{l:List dn},(l.map (·.id)).Nodup->∀{a b:dn},a∈l->b∈l->a.id=b.id->a=b
 |[],_,a,b,h,_,_=>by cases h
 |x::l,hn,a,b,ha,D,he=>by
  rw[aW,yk] at hn;rcases a9.1 ha with rfl|ha
  ·rcases a9.1 D with rfl|D
   ·rfl
   ·exact absurd (aV.2 ⟨b,D,he.symm⟩) hn.1
  ·rcases a9.1 D with D|D
   ·rw[D] at he
    exact absurd (aV.2 ⟨a,ha,he⟩) hn.1
   ·exact uB hn.2 ha D he
theorem Ae:∀{l:List dn},(l.map (·.id)).Nodup->∀{e:dn} {id q:Int},e∈l->e.id=id->e.aw<=q->(l.filterMap (fS id q)).length+1=l.length
 |[],_,e,_,_,h,_,_=>by cases h
 |x::l,hn,e,id,q,he,D,hq=>by
  have I:=hn;rw[aW,yk] at I
  by_cases hx:x.id=id
  ·have:x=e:=uB hn bT he (hx.trans D.symm)
   subst this;have J:fS id q x=none:=by unfold fS;rw[if_pos hx,if_pos hq]
   rw[dr,J];simp only;rw[xG fun e O h2=>I.1 (aV.2 ⟨e,O,h2.trans hx.symm⟩)];simp
  ·have J:fS id q x=some x:=by unfold fS;rw[if_neg hx]
   rcases a9.1 he with rfl|he
   ·exact absurd D hx
   ·rw[dr,J]
    simp only[bI];rw[Ae I.2 he D hq]
theorem Jo:∀{l:List dn} {id q:Int},(∀e∈l,e.id=id->q<e.aw)->(l.filterMap (fS id q)).length=l.length
 |[],_,_,_=>rfl
 |x::l,id,q,h=>by
  have D:=h x bT;obtain⟨y,I⟩:∃y,fS id q x=some y:=by
   unfold fS
   by_cases hx:x.id=id
   ·rw[if_pos hx,if_neg (cA (D hx))];exact⟨_,rfl⟩
   ·rw[if_neg hx];exact⟨_,rfl⟩
  rw[dr,I];simp only[bI];rw[Jo fun e he=>h e (by simp[he])]
theorem yJ {l:List dn} (hn:(l.map (·.id)).Nodup) (he:e∈l) (I:e.id=id) (hq:e.aw<=q):∀x∈l.filterMap (fS id q),x.id≠id:=by
 intro x hx D;obtain⟨O,h1,J,_,_,h4⟩:=pT hx;have h5:=h4 (J.trans D);have:O=e:=uB hn h1 he (I▸J.trans D);subst this;omega
theorem Ly (h:1<=e.aw):fS id 0 e=some e:=by
 unfold fS
 by_cases hx:e.id=id
 ·rw[if_pos hx,if_neg ae];simp
 ·rw[if_neg hx]
theorem zI {l:List dn} {f:dn->Option dn} (h:∀e∈l,f e=some e):l.filterMap f=l:=by
 induction l with
 |nil=>rfl
 |cons x l D=>rw[dr,h x bT];simp only;rw[D fun e he=>h e (by simp[he])]
theorem Ff (h:∀e∈gY l,1<=e.aw) (D:∀r∈l,r.2≠[]):kZ id 0 l=l:=by
 induction l with
 |nil=>rfl
 |cons r l O=>
  have h1:r.2.filterMap (fS id 0)=r.2:=zI fun e he=>Ly (h e (dD.2 ⟨r,bT,he⟩));have J:=O (fun e he=>h e (by obtain⟨x,hx,I⟩:=dD.1 he;exact dD.2 ⟨x,by simp[hx],I⟩)) fun x hx=>D x (by simp[hx]);unfold kZ at J⊢;rw[aW,gN];have h3:yy id 0 r=r:=by unfold yy;rw[h1]
  have h4:(!r.2.isEmpty)=true:=by
   have:=D r bT
   cases hr:r.2 with
   |nil=>exact absurd hr this
   |cons a b=>rfl
  rw[h3,if_pos h4,J]
theorem EE.Sa (h:EE M) (id:Int):M.cut id 0=M:=by
 unfold BM.cut;rw[Ff (fun e he=>(h.ok e (aJ.2 (.inl he))).1) h.XL,Ff (fun e he=>(h.ok e (aJ.2 (.inr he))).1) h.Ol]
theorem NC (h:r∈kZ id q l):∃D∈l,D.1=r.1:=by
 obtain⟨D,I,rfl⟩:=aV.1 (lX.1 h).1;exact⟨D,I,rfl⟩
theorem rE (M:BM) (id q:Int) (k:Nat):(M.cut id q).side k=kZ id q (M.side k):=by
 unfold BM.side BM.cut
 split<;>rfl
theorem yK (k:Nat) (p:Int) (e:dn):∀l:List iQ,(gY (mo k l p e)).Perm (e::gY l)
 |[]=>by simp[mo,gY]
 |r::l=>by
  have D:=yK k p e l;rw[mo]
  split
  ·unfold gY at D⊢
   rw[bj,bj];exact(D.append_left r.2).trans nw
  ·split
   ·unfold gY
    rw[bj,bj];simp only[bD,List.singleton_append];exact nw
   ·unfold gY
    rw[bj];exact List.Perm.refl _
theorem Pq (l:List iQ):gY (yx l)=(gY l).map Br:=by
 unfold gY yx
 induction l with
 |nil=>rfl
 |cons r l D=>simp only[aW,bj,cx];rw[D]
theorem qE (k:Nat) (l:List iQ) (id p q:Int):∃t f,(f=Br\/f=fun e=>e)/\(gY (jo k l id p q)).Perm (⟨id,q,t⟩::(gY l).map f):=by
 unfold jo
 by_cases h:Kd k l p=true
 ·refine⟨true,Br, .inl rfl,?_⟩
  rw[if_pos h,h];have:=yK k p ⟨id,q,true⟩ (yx l);rw[Pq] at this;exact this
 ·have D:Kd k l p=false:=by simpa using h
  refine⟨false,_, .inr rfl,?_⟩;rw[if_neg h,D,List.map_id'];exact yK k p ⟨id,q,false⟩ l
theorem Uv (M:BM) (k:Nat) (id p q:Int):(M.add k id p q).I.length=M.I.length+1:=by
 unfold BM.add BM.I
 by_cases D:k=0
 ·obtain⟨t,f,_,h⟩:=qE 0 M.s0 id p q
  have:=h.length_eq;rw[if_pos D];simp only[aC,bI,br] at this⊢;omega
 ·obtain⟨t,f,_,h⟩:=qE 1 M.s1 id p q
  have:=h.length_eq;rw[if_neg D];simp only[aC,bI,br] at this⊢;omega
theorem Co (h:e∈(M.add k id p q).I):(e.id=id/\e.aw=q)\/∃D∈M.I,D.id=e.id/\D.aw=e.aw:=by
 have key:∀(O:Nat) (l:List iQ),e∈gY (jo O l id p q)->(e.id=id/\e.aw=q)\/∃D∈gY l,D.id=e.id/\D.aw=e.aw:=by
  intro O l hx;obtain⟨t,f,hf,hp⟩:=qE O l id p q;rcases a9.1 (hp.mem_iff.1 hx) with rfl|hx
  ·exact .inl ⟨rfl,rfl⟩
  ·obtain⟨D,J,rfl⟩:=aV.1 hx
   rcases hf with rfl|rfl
   ·exact .inr ⟨D,J,rfl,rfl⟩
   ·exact .inr ⟨D,J,rfl,rfl⟩
 unfold BM.add BM.I at h
 by_cases hk:k=0
 ·rw[if_pos hk] at h
  rcases aJ.1 h with h|h
  ·rcases key _ _ h with h|⟨D,J,h2⟩
   ·exact .inl h
   ·exact .inr ⟨D,aJ.2 (.inl J),h2⟩
  ·exact .inr ⟨e,aJ.2 (.inr h),rfl,rfl⟩
 ·rw[if_neg hk] at h
  rcases aJ.1 h with h|h
  ·exact .inr ⟨e,aJ.2 (.inl h),rfl,rfl⟩
  ·rcases key _ _ h with h|⟨D,J,h2⟩
   ·exact .inl h
   ·exact .inr ⟨D,aJ.2 (.inr J),h2⟩
theorem Sb (M:BM) (k:Nat) (id p q:Int):(∃e∈(M.add k id p q).I,e.id=id)/\∀J∈M.I,∃e∈(M.add k id p q).I,e.id=J.id:=by
 have key:∀(kk:Nat) (l:List iQ),(∃e∈gY (jo kk l id p q),e.id=id)/\∀J∈gY l,∃e∈gY (jo kk l id p q),e.id=J.id:=by
  intro kk l;obtain⟨t,f,hf,hp⟩:=qE kk l id p q;refine⟨⟨_,hp.mem_iff.2 (cg ..),rfl⟩,fun J D=>⟨f J,hp.mem_iff.2 (bB _ (aV.2 ⟨J,D,rfl⟩)),?_⟩⟩;rcases hf with rfl|rfl<;>rfl
 unfold BM.add BM.I
 by_cases hk:k=0
 ·rw[if_pos hk]
  refine⟨?_,fun J D=>?_⟩
  ·obtain⟨e,O,h2⟩:=(key 0 M.s0).1
   exact⟨e,aJ.2 (.inl O),h2⟩
  ·rcases aJ.1 D with D|D
   ·obtain⟨e,O,h2⟩:=(key 0 M.s0).2 J D
    exact⟨e,aJ.2 (.inl O),h2⟩
   ·exact⟨J,aJ.2 (.inr D),rfl⟩
 ·rw[if_neg hk]
  refine⟨?_,fun J D=>?_⟩
  ·obtain⟨e,O,h2⟩:=(key 1 M.s1).1
   exact⟨e,aJ.2 (.inr O),h2⟩
  ·rcases aJ.1 D with D|D
   ·exact⟨J,aJ.2 (.inl D),rfl⟩
   ·obtain⟨e,O,h2⟩:=(key 1 M.s1).2 J D
    exact⟨e,aJ.2 (.inr O),h2⟩
theorem ND:∀{l:List iQ} {r:iQ},r∈mo k l p e->r.1=p\/∃D∈l,D.1=r.1
 |[],r,h=>by simp[mo] at h;subst h;exact .inl rfl
 |x::l,r,h=>by
  rw[mo] at h
  split at h
  ·rcases a9.1 h with rfl|h
   ·exact .inr ⟨r,bT,rfl⟩
   ·rcases ND h with h|⟨D,I,J⟩
    ·exact .inl h
    ·exact .inr ⟨D,by simp[I],J⟩
  ·split at h
   ·rename_i hp
    rcases a9.1 h with rfl|h
    ·exact .inl hp
    ·exact .inr ⟨r,by simp[h],rfl⟩
   ·rcases a9.1 h with rfl|h
    ·exact .inl rfl
    ·exact .inr ⟨r,h,rfl⟩
theorem Fg (h:r∈jo k l id p q):r.1=p\/∃D∈l,D.1=r.1:=by
 unfold jo at h;rcases ND h with h|⟨D,I,J⟩
 ·exact .inl h
 ·split at I
  ·obtain⟨r1,O,rfl⟩:=aV.1 I
   exact .inr ⟨r1,O,J⟩
  ·exact .inr ⟨D,I,J⟩
theorem Sc {k':Nat} (h:r∈(M.add k id p q).side k'):r.1=p\/∃J∈M.side k',J.1=r.1:=by
 unfold BM.add BM.side at h;unfold BM.side
 by_cases I:k=0<;>by_cases D:k'=0
 ·simp only[I,D,if_true,reduceIte] at h⊢;exact Fg h
 ·simp only[I,D,if_true,if_false,reduceIte] at h⊢;exact .inr ⟨r,h,rfl⟩
 ·simp only[I,D,if_true,if_false,reduceIte] at h⊢;exact .inr ⟨r,h,rfl⟩
 ·simp only[I,D,if_false,reduceIte] at h⊢;exact Fg h
theorem wP (h:np l id=some (p,e)):∃r∈l,r.1=p/\e∈r.2/\e.id=id:=by
 unfold np at h;obtain⟨r,hr,h⟩:=Hi h
 cases hf:r.2.find? fun e=>e.id==id with
 |none=>rw[hf] at h;cases h
 |some x=>
  rw[hf] at h;injection h with h;injection h with D I;subst I;exact⟨r,hr,D,uP hf,by simpa using MV hf⟩
theorem Cp (h:np l id=none):∀e∈gY l,e.id≠id:=by
 intro e he D;obtain⟨r,hr,he⟩:=dD.1 he;unfold np at h;have I:=QD.1 h r hr
 cases hf:r.2.find? fun e=>e.id==id with
 |none=>exact DZ.1 hf e he (by simpa using D)
 |some x=>rw[hf] at I;cases I
theorem Lz (h:uy M id=some (k,p,e)):k<2/\∃r∈M.side k,r.1=p/\e∈r.2/\e.id=id:=by
 unfold uy at h
 cases I:np M.s0 id with
 |some x=>
  rw[I] at h;injection h with h;injection h with D J;subst D J;exact⟨ae,wP I⟩
 |none=>
  rw[I] at h
  cases D:np M.s1 id with
  |none=>rw[D] at h;cases h
  |some x=>
   rw[D] at h;injection h with h;injection h with J O;subst J O;exact⟨ae,wP D⟩
theorem LC (h:uy M id=none):∀e∈M.I,e.id≠id:=by
 unfold uy at h
 cases D:np M.s0 id with
 |some x=>rw[D] at h;cases h
 |none=>
  rw[D] at h
  cases J:np M.s1 id with
  |some x=>rw[J] at h;cases h
  |none=>
   intro e he;rcases aJ.1 he with he|he
   ·exact Cp D e he
   ·exact Cp J e he
theorem fX (hr:r∈M.side k) (he:e∈r.2):e∈M.I:=by
 unfold BM.side at hr
 split at hr
 ·exact OX hr he
 ·exact OY hr he
theorem sJ (h:sX S id=some (x,k,p,e)):∃M,S[x]?=some M/\k<2/\∃r∈M.side k,r.1=p/\e∈r.2/\e.id=id:=by
 unfold sX at h;obtain⟨y,D,h⟩:=Hi h
 cases hs:S[y]? with
 |none=>rw[hs] at h;cases h
 |some M=>
  rw[hs] at h
  cases hm:uy M id with
  |none=>simp[hm] at h
  |some r=>
   simp[hm] at h;obtain⟨rfl,rfl⟩:=h;exact⟨M,hs,Lz hm⟩
theorem LD (h:sX S id=none):∀(x:Nat) (M:BM),S[x]?=some M->∀e∈M.I,e.id≠id:=by
 intro x M hx;unfold sX at h;have D:=QD.1 h x (iT.2 (az.1 hx).1);rw[hx] at D;refine LC ?_
 cases hm:uy M id with
 |none=>rfl
 |some r=>simp[hm] at D
def zp (bs:List Nat):List Value:=bs.map fun b=> Pz b
structure NF where
 ma:Option Addr
 mc:Nat
 sa:Option Addr
 sc:Nat
 A:Option Addr
 c:Nat
 bs:List Nat
 Fs:Nat→Nat→Prop
 mb:Nat
 f:Int→Option Value
variable {C:NF}
def NF.cells (C:NF) (P:PD):Array Value:=#[.string (str P.code), .slice C.ma P.E.length C.mc,Iz P.tick,Iz P.low,Iz P.high,Iz P.wide,Iz P.rule,Iz P.top,Iz P.least,Iz P.part, .slice C.sa P.settle.length C.sc, .slice C.A C.bs.length C.c, .map (some C.mb)]
def NF.QH (C:NF) (s k:Nat):Prop:=k=s∨k=C.mb∨(Value.slice C.A C.bs.length C.c).ownBlock=some k
def NF.ro (C:NF) (k:Nat):Prop:=qP C.ma k∨qP C.sa k
structure qj (w:World) (s:Nat) (P:PD) (S:Sm) (C:NF):Prop where
 D:aE w s 132 (C.cells P)
 pd:iZ w P C.ma C.sa
 ob:w.ownsRow 0 133 1 (.slice C.A C.bs.length C.c) C.bs.length (zp C.bs)
 bn:C.bs.length=P.count
 sn:S.length=P.count
 bk:∀(x b:Nat) (M:BM),C.bs[x]?=some b→S[x]?=some M→cz w (C.Fs x) b M
 dj:∀x y k,C.Fs x k→C.Fs y k→x=y
 off:∀x k,C.Fs x k→¬C.QH s k∧¬C.ro k
 Yv:∀k,C.ro k→¬C.QH s k
 NG:∀x k,C.Fs x k→k<w.heap.size
 Ps:∀k,C.ro k→k<w.heap.size
 mp:fR w C.mb C.f (cK S)
 fw:∀(x:Nat) (M:BM) (e:dn),S[x]?=some M→e∈M.I→C.f e.id=some (Iz (x:Int))
 bw:∀(id:Int) (v:Value),C.f id=some v→∃(x:Nat) (M:BM) (e:dn),S[x]?=some M∧e∈M.I∧e.id=id∧v= Iz (x:Int)
 pr:∀(x k:Nat) (M:BM) (r:iQ),S[x]?=some M→r∈M.side k→P.fy x r.1=0
 cnt:cK S≤250
def dR (w:World) (G R:Nat→Prop) (s:Nat) (P:PD) (S:Sm):Prop:=
 ∃C,qj w s P S C∧(∀k,C.QH s k→G k)∧(∀x k,C.Fs x k→G k)∧∀k,C.ro k→R k
theorem qj.Pt (h:qj w s P S C):∀k,C.QH s k->k<w.heap.size:=by
 rintro k (rfl|rfl|I)
 ·exact h.D.lt
 ·exact h.mp.lt
 ·exact(h.ob.lt k I).2
theorem qj.same (h:qj w s P S C) (J:∀k,C.QH s k->w'.heap[k]?=w.heap[k]?) (hf:∀x k,C.Fs x k->w'.heap[k]?=w.heap[k]?) (hr:∀k,C.ro k->w'.heap[k]?=w.heap[k]?) (hs:w.heap.size<=w'.heap.size):qj w' s P S C:=
 ⟨h.D.block (J s (.inl rfl)),h.pd.same (fun k I _=>hr k I) hs,aX h.ob fun g hg=>J g (.inr (.inr hg)),h.bn,h.sn,fun x b M O h2=>(h.bk x b M O h2).same fun k _ I=>hf x k I,h.dj,h.off,h.Yv,
  fun x k I=>aA (h.NG x k I) hs,fun k I=>aA (h.Ps k I) hs,h.mp.block (J _ (.inr (.inl rfl))),h.fw,h.bw,h.pr,h.cnt⟩
theorem dR.same (h:dR w G R s P S) (J:∀k,k<w.heap.size->G k\/R k->w'.heap[k]?=w.heap[k]?) (hs:w.heap.size<=w'.heap.size):dR w' G R s P S:=by
 obtain⟨C,I,O,h3,h4⟩:=h;exact⟨C,I.same (fun k D=>J k (I.Pt k D) (.inl (O k D))) (fun x k D=>J k (I.NG x k D) (.inl (h3 x k D))) (fun k D=>J k (I.Ps k D) (.inr (h4 k D))) hs,O,h3,h4⟩
theorem dR.below (h:dR w G R s P S) (D:Bz w w'):dR w' G R s P S:=h.same (fun k I _=>D.block k I) D.size
theorem dR.lv {H:Nat->Prop} (h:dR w G R s P S) (D:Lv H w w') (I:∀k,G k\/R k->¬H k):dR w' G R s P S:=h.same (fun k J hg=>D.block k J (I k hg)) D.size
theorem dR.drew (h:dR w G R s P S):dR w.drew G R s P S:=h.same (fun _ _ _=>rfl) (af _)
theorem dR.mono {J R':Nat->Prop} (h:dR w G R s P S) (O:∀k,G k->k<w.heap.size->J k) (hR:∀k,R k->R' k):dR w J R' s P S:=by
 obtain⟨C,I,h2,h3,h4⟩:=h;exact⟨C,I,fun k D=>O k (h2 k D) (I.Pt k D),fun x k D=>O k (h3 x k D) (I.NG x k D),fun k D=>hR k (h4 k D)⟩
theorem dR.right (h:dR w G R s P S):P.gZ:=by
 obtain⟨C,D,_⟩:=h;exact D.pd.right
theorem dR.len (h:dR w G R s P S):S.length=P.count:=by
 obtain⟨C,D,_⟩:=h;exact D.sn
theorem qj.book (h:qj w s P S C) (hx:x<P.count):∃b M,C.bs[x]?=some b/\S[x]?=some M/\cz w (C.Fs x) b M:=by
 have D:x<C.bs.length:=by rw[h.bn];exact hx
 have I:x<S.length:=by rw[h.sn];exact hx
 have e1:=aj D;have e2:=aj I;exact⟨_,_,e1,e2,h.bk _ _ _ e1 e2⟩
theorem mB {c:Nat} (h:w.ownsRow 0 133 1 (.slice A bs.length c) bs.length (zp bs)) (hx:bs[x]?=some b):∃g,A=some ⟨g,0,none⟩/\w.cell? ⟨g,x,none⟩=some (Pz b):=by
 have D:x<bs.length:=(az.1 hx).1;obtain⟨g,hg,_,_⟩:=kz h ae;rw[hg] at h;exact⟨g,hg,dI h (by unfold zp;rw[bo,hx];rfl)⟩
theorem lB (h:S[x]?=some M) (M':BM):cK (S.set x M')+M.I.length=cK S+M'.I.length:=by
 unfold cK
 induction S generalizing x with
 |nil=>simp at h
 |cons y S D=>
  cases x with
  |zero=>simp at h;subst h;simp;omega
  |succ x=>
   have:=D (x:=x) (by simpa using h);simp only[List.set_cons_succ,aW,cN];omega
theorem Pu (h:S[x]?=some M):M.I.length<=cK S:=by
 have:=lB h ⟨[],[]⟩;have D:(BM.mk [] []).I.length=0:=rfl;omega
theorem nS (h:S[x]?=some M) (id q:Int):cutAt S x id q=S.set x (M.cut id q):=by unfold cutAt;rw[h]
theorem LG (h:S[x]?=some M) (k:Nat) (id p q:Int):oW S x k id p q=S.set x (M.add k id p q):=by unfold oW;rw[h]
theorem nX {N:BM} (h:(S.set x M)[y]?=some N):(y=x/\N=M)\/(y≠x/\S[y]?=some N):=mm h
def rF (C:NF) (x:Nat) (w w':World):Nat→Nat→Prop:=fun y=>if y=x then grow (C.Fs x) w w' else C.Fs y
theorem qj.change (h:qj w s P S C) (hb:C.bs[x]?=some b) (hM:S[x]?=some M) (L:Lv (fun k=>C.Fs x k\/k=C.mb) w w') (hB:cz w' (grow (C.Fs x) w w') b M')
  (hm:fR w' C.mb f' (cK (S.set x M')))
  (fw:∀(y:Nat) (N:BM) (e:dn),(S.set x M')[y]?=some N->e∈N.I->f' e.id=some (Iz (y:Int)))
  (bw:∀(id:Int) (v:Value),f' id=some v->∃(y:Nat) (N:BM) (e:dn),(S.set x M')[y]?=some N/\e∈N.I/\e.id=id/\v= Iz (y:Int))
  (pr:∀(k:Nat) (r:iQ),r∈M'.side k->P.fy x r.1=0) (cnt:cK (S.set x M')<=250):qj w' s P (S.set x M') {C with Fs:=rF C x w w',f:=f'}:=by
 have a7:∀k,C.QH s k->k≠C.mb->¬(C.Fs x k\/k=C.mb):=fun k J a5 hF=>by
  rcases hF with hF|hF
  ·exact(h.off x k hF).1 J
  ·exact a5 hF
 have a8:∀{cs T},w.heap[C.mb]?=some (.cells cs T (0,0))->False:=fun hc=>by
  obtain⟨D,⟨es,clock,ba,_⟩,_⟩:=h.mp;rw[hc] at ba;cases ba
 have a6:∀{y k},rF C x w w' y k->C.Fs y k\/(w.heap.size<=k/\k<w'.heap.size/\y=x):=by
  intro y k J;unfold rF at J
  split at J
  ·rename_i hy
   subst hy;rcases J with J|J
   ·exact .inl J
   ·exact .inr ⟨J.1,J.2,rfl⟩
  ·exact .inl J
 refine⟨h.D.lv L (a7 s (.inl rfl) fun e=>?_),h.pd.same (fun k J bb=>L.block k bb ?_) L.size,aX h.ob fun g hg=>L.block g (h.ob.lt g hg).2 (a7 g (.inr (.inr hg)) fun e=>?_),h.bn,by rw[jn];exact h.sn,fun y b' N O h2=>?_,fun y z k O h2=>?_,fun y k O=>?_,h.Yv,
  fun y k O=>?_,fun k J=>aA (h.Ps k J) L.size,hm,fw,bw,fun y k N r O h2=>?_,cnt⟩
 ·have a0:=h.D
  unfold aE at a0;rw[e] at a0;exact a8 a0
 ·rintro(hF|rfl)
  ·exact(h.off x k hF).2 J
  ·exact h.Yv _ J (.inr (.inl rfl))
 ·obtain⟨cur,hc⟩:=bY h.ob hg
  rw[e] at hc;exact a8 hc
 ·rcases nX h2 with⟨rfl,rfl⟩|⟨a5,h2⟩
  ·rw[hb] at O
   injection O with O;subst O;show cz w' (rF C y w w' y) b N;unfold rF;rw[if_pos rfl];exact hB
  ·show cz w' (rF C x w w' y) b' N
   unfold rF;rw[if_neg a5];refine(h.bk y b' N O h2).lv L ?_;rintro k J (hF|rfl)
   ·exact a5 (h.dj y x k J hF)
   ·exact(h.off y _ J).1 (.inr (.inl rfl))
 ·rcases a6 O with a1|⟨a1,_,ax⟩<;>rcases a6 h2 with a2|⟨a2,_,ay⟩
  ·exact h.dj y z k a1 a2
  ·have:=h.NG y k a1;omega
  ·have:=h.NG z k a2;omega
  ·rw[ax,ay]
 ·rcases a6 O with a1|⟨a1,_,ax⟩
  ·exact h.off y k a1
  ·refine⟨fun ho=>?_,fun hr=>?_⟩
   ·have:=h.Pt k ho;omega
   ·have:=h.Ps k hr;omega
 ·rcases a6 O with a1|⟨_,a1,_⟩
  ·exact aA (h.NG y k a1) L.size
  ·exact a1
 ·rcases nX O with⟨rfl,rfl⟩|⟨_,O⟩
  ·exact pr k r h2
  ·exact h.pr y k N r O h2
theorem Tryz.Gz (w:World):(zeroValue 3).run Tryz.prog w= .ok (Iz 0) w:=by kernel_rfl
theorem pU {f:Int->Option Value} (h:fR w b f n) (D:dZ id):
  (Instr.lookup 107 (.map (some b)) (Iz id) true).run Tryz.prog w= .ok (.tuple #[(f id).getD (Iz 0), .bool (f id).isSome]) w:=
 h.look_ok Tryz.underlying107 (Tryz.Gz w) D
theorem Sf (hr:r∈l) (he:e∈r.2) (hq:e.id=id->q<e.aw):∃r'∈kZ id q l,∃e'∈r'.2,e'.id=e.id:=by
 by_cases D:e.id=id
 ·have hx:fS id q e=some {e with aw:=e.aw - q}:=by unfold fS;rw[if_pos D,if_neg (cA (hq D))]
  obtain⟨r',I,J⟩:=rh hr he hx;exact⟨r',I,_,J,rfl⟩
 ·have hx:fS id q e=some e:=by unfold fS;rw[if_neg D]
  obtain⟨r',I,J⟩:=rh hr he hx;exact⟨r',I,_,J,rfl⟩
theorem qj.known (h:qj w s P S C) (J:S[x]?=some M) (hr:r∈M.side k) (he:e∈r.2):C.f e.id=some (Iz (x:Int))/\dZ e.id/\1<=e.aw/\e.aw<=1000000/\x<P.count:=by
 have hx:x<P.count:=by rw[<-h.sn];exact(az.1 J).1
 obtain⟨b,M',h1,I,O⟩:=h.book hx;rw[J] at I;injection I with I;subst I;have D:=fX hr he;have:=O.ok.ok e D;exact⟨h.fw x M e J D,this.2.2,this.1,this.2.1,hx⟩
theorem vp (s:Nat) (P:PD) (S:Sm) (G R:Nat->Prop) (x k:Nat) (M:BM) (r:iQ) (e:dn) (id aw:Int) (w:World) (h:dR w G R s P S) (hM:S[x]?=some M) (hr:r∈M.side k) (he:e∈r.2) (ax:e.id=id) (O:k<2) (hq:1<=aw/\aw<=e.aw):
  Wz 72 #[Pz s,Iz id,Iz aw] w fun e w'=>e= .returned (Iz 0)/\dR w' (grow G w w') R s P (cutAt S x id aw)/\Lv G w w':=by
 obtain⟨C,hS,bt,a2,hR⟩:=h;obtain⟨kf,ki,eb,ed,kx⟩:=hS.known hM hr he;rw[ax] at kf ki;obtain⟨b,M',hb,bb,hB⟩:=hS.book kx;rw[hM] at bb;injection bb with bb;subst bb;obtain⟨gA,hA,hp⟩:=mB hS.ob hb;have bE:=pU hS.mp ki;rw[kf] at bE;simp only[qo,oG] at bE;have b9:Cz w s 11 (.slice (some ⟨gA,0,none⟩) C.bs.length C.c):=hA▸hS.D.cell 11;have dS:Cz w s 12 (.map (some C.mb)):=hS.D.cell 12;obtain⟨N,eN⟩:=Zn C.bs.length;rw[<-eN] at b9;have ef:(x:Int)<N:=by rw[eN,hS.bn];omega
 obtain⟨HS,HB,HM,HR,HE,cd,cf,ck,cl,HP,EN,HQ,bH⟩:=QO hS hB hM hr he ax ki kf hA hp eN hq hb;clear hS hB hM hr he ki kf hA eN hb kx
 go_enter Tryz.func72,Tryz.ntmps72
 go_wp2_with fail;refine(Pp b M (C.Fs x) k r e id aw w HB.h HR.h HE.h ax hq).mono ?_;rintro en w1⟨rfl,cm,L1⟩;have off:=fun k (O:C.QH s k) (hF:C.Fs x k)=>(HS.h.off x k hF).1 O;have a0:=HS.h.D.lv L1 (off s (.inl rfl));have d9:Cz w1 s 11 (.slice (some ⟨gA,0,none⟩) N C.c):=cl.h▸EN.h▸a0.cell 11;have cn:Cz w1 s 12 (.map (some C.mb)):=a0.cell 12;have ct:=aX HS.h.ob fun g hg=>L1.block g (HS.h.ob.lt g hg).2 (off g (.inr (.inr hg)));obtain⟨eg,a5,ei⟩:=mB ct bH.h;rw[cl.h] at a5;injection a5 with a5;injection a5 with a5 _;subst a5;have dT:s<w1.heap.size:=a0.lt;have cv:=HS.h.mp.lv L1 (off _ (.inr (.inl rfl)));obtain⟨bc,bQ,bh⟩:=fY cm L1 cv;clear a0 ct cm L1 b9 dS hp bE cv;have xX:=HB.h.ok
 by_cases bf:aw<e.aw
 ·obtain⟨r',bR,e',cF,bp⟩:=Sf (l:=M.side k) HR.h HE.h (id:=id) (q:=aw) (fun _=>bf)
  rw[<-rE] at bR;obtain⟨cH,bU,d2,d3,d4⟩:=rU bf xX bR cF (bp.trans ax);clear bf xX bR cF bp ax hq;go_wp2_with fail;refine(yH b (M.cut id aw) _ k ((k:Int)+1) r' e' id w1 bc.h O rfl d2.h d3.h d4.h).mono ?_;rintro en w2⟨rfl,b2⟩;go_wp2_with fail;go_ret;have bV:(M.cut id aw).I.length=M.I.length:=by
   rw[iI];exact Jo fun y hy a7=>by
    have:y=e:=uB bU.h.nd hy (fX HR.h HE.h) (a7.trans cd.h.symm);rw[this];exact cH.h
  obtain⟨w3,ay⟩:=Zn (w2.alloc (.cells #[Iz id,Iz ((k:Int)+1),Iz r'.1,Iz e'.aw, .bool e'.top] 81));rw[<-ay];have B3:Bz w1 w3:=ay▸au b2 _;have a6:cK (S.set x (M.cut id aw))=cK S:=cA (lB HM.h (M.cut id aw));have b0:=HS.h.change (w':=w3) bH.h HM.h ((Lv.cV bQ.h B3).mono fun k O=> .inl (.inl O)) (M':=M.cut id aw)
   ((bc.h.below B3).mono fun j hj _=>by rcases hj with hj|⟨h1,h2⟩;exact .inl hj;exact .inr ⟨h1,aA h2 B3.size⟩) (f':=C.f) (a6▸bh.h.below B3)
   (fun y N' e0 h1 h2=>by
    rcases nX h1 with⟨rfl,rfl⟩|⟨cQ,h1⟩
    ·rw[iI] at h2
     obtain⟨e1,h3,h4,_⟩:=pT h2;rw[<-h4];exact HS.h.fw y M e1 HM.h h3
    ·exact HS.h.fw y N' e0 h1 h2)
   (fun i v hv=>by
    obtain⟨y,N',e0,h1,h2,h3,h4⟩:=HS.h.bw i v hv
    by_cases hy:y=x
    ·subst hy
     rw[HM.h] at h1;injection h1 with h1;subst h1;obtain⟨e1,h5,h6⟩:=R9 (id:=id) (q:=aw) h2 fun a7=>by
      have:e0=e:=uB bU.h.nd h2 (fX HR.h HE.h) (a7.trans cd.h.symm);rw[this];exact cH.h
     refine⟨y,_,e1,aD (az.1 HM.h).1,by rw[iI];exact h5,h6.trans h3,h4⟩
    ·exact⟨y,N',e0,by rw[aZ (fun e=>hy e.symm)];exact h1,h2,h3,h4⟩)
   (fun kk rr a8=>by
    rw[rE] at a8;obtain⟨r0,h1,h2⟩:=NC a8;rw[<-h2];exact HS.h.pr x kk M r0 HM.h h1)
   (a6▸HS.h.cnt)
  rw[nS HM.h];refine⟨rfl,⟨_,b0,fun k O=> .inl (bt k O),fun y j hj=>?_,hR⟩,(Lv.cV bQ.h B3).mono fun k O=> .inl (a2 x k O)⟩;have J:rF C x w w3 y j:=hj;unfold rF at J
  split at J
  ·rcases J with J|J
   ·exact .inl (a2 x j J)
   ·exact .inr J
  ·exact .inl (a2 y j J)
 ·have cS:∀y∈(M.cut id aw).I,y.id≠id:=by
   rw[iI];exact yJ xX.nd (fX HR.h HE.h) ax ae
  have bV:(M.cut id aw).I.length+1=M.I.length:=by
   rw[iI];exact Ae xX.nd (fX HR.h HE.h) ax ae
  obtain⟨bU,cT,d5⟩:=fY xX cS bV;clear bf xX cS bV ax hq;go_wp2_with fail;refine(Pn b (M.cut id aw) _ id w1 bc.h cf.h cT.h).mono ?_;rintro en w2⟨rfl,b2⟩;obtain⟨w3,ay⟩:=Zn (w2.alloc (.cells #[Iz 0,Iz 0,Iz 0,Iz 0, .bool false] 81));have B3:Bz w1 w3:=ay▸au b2 _;obtain⟨w4,cX,ba,c0⟩:=(bh.h.below B3).del Tryz.underlying107 cf.h 0;rw[ck.h] at ba;simp only[oG,if_true] at ba;have cs:=lB HM.h (M.cut id aw);have a6:cK (S.set x (M.cut id aw))=cK S - 1:=cA d5.h;rw[<-a6] at ba;have d6:Cz w3 s 12 (.map (some C.mb)):=Yb B3 dT cn;rw[ay] at cX d6;obtain⟨d7,b7,b8,ej,d8⟩:=rU ba c0 B3 ay a6;clear ba c0 B3 b2 ay cs a6;go_wp2_with fail;go_ret;have ek:∀{k:Nat} {cs:Array Value} {T:TypeId},w.heap[k]?=some (.cells cs T (0,0))->k≠C.mb:=fun {k cs T} hc e=>by
   obtain⟨D,⟨es,clock,dc,_⟩,_⟩:=HS.h.mp;rw[e] at hc;rw[hc] at dc;cases dc
  have L4:Lv (fun k=>C.Fs x k\/k=C.mb) w w4:=((Lv.cV bQ.h b8.h).mono (G:=fun k=>C.Fs x k\/k=C.mb) fun k O=> .inl (.inl O)).then (Lv.dy b7.h fun k O=> .inl (.inr (by injection O with O;exact O.symm)));have dp:∀k,C.Fs x k->k≠C.mb:=fun k O e=>(HS.h.off x k O).1 (.inr (.inl e));have ea:w3.heap.size<=w4.heap.size:=b7.h.size;have B4:cz w4 (grow (C.Fs x) w w4) b (M.cut id aw):=by
   have h3:=bc.h.below b8.h;have h4:cz w4 (grow (C.Fs x) w w1) b (M.cut id aw):=h3.same fun k O hF=>b7.h.block k O fun e=>by
    injection e with e;rcases hF with hF|⟨h5,_⟩
    ·exact dp k hF e
    ·have:=HS.h.Pt C.mb (.inr (.inl rfl));omega
   refine h4.mono fun j hj _=>?_;rcases hj with hj|⟨h5,h6⟩
   ·exact .inl hj
   ·exact .inr ⟨h5,cA b8.h.size⟩
  have b0:=HS.h.change (w':=w4) bH.h HM.h L4 B4 d7.h
   (fun y N' e0 h1 h2=>by
    rcases nX h1 with⟨rfl,rfl⟩|⟨cQ,h1⟩
    ·have h9:=cT.h e0 h2
     rw[iI] at h2;obtain⟨e1,h3,h4,_⟩:=pT h2;rw[if_neg h9,<-h4];exact HS.h.fw y M e1 HM.h h3
    ·have h9:=HS.h.fw y N' e0 h1 h2
     rw[if_neg]
     ·exact h9
     ·intro e9
      rw[e9,ck.h] at h9;injection h9 with h9;injection h9 with _ h9;exact cQ ae)
   (fun i v hv=>by
    by_cases hi:i=id
    ·rw[if_pos hi] at hv;cases hv
    ·rw[if_neg hi] at hv
     obtain⟨y,N',e0,h1,h2,h3,h4⟩:=HS.h.bw i v hv
     by_cases hy:y=x
     ·subst hy
      rw[HM.h] at h1;injection h1 with h1;subst h1;obtain⟨e1,h5,h6⟩:=R9 (id:=id) (q:=aw) h2 fun a7=>absurd (h3.symm.trans a7) hi;refine⟨y,_,e1,aD (az.1 HM.h).1,by rw[iI];exact h5,h6.trans h3,h4⟩
     ·exact⟨y,N',e0,by rw[aZ (fun e=>hy e.symm)];exact h1,h2,h3,h4⟩)
   (fun kk rr a8=>by
    rw[rE] at a8;obtain⟨r0,h1,h2⟩:=NC a8;rw[<-h2];exact HS.h.pr x kk M r0 HM.h h1)
   (by rw[d8.h];have:=HS.h.cnt;omega)
  rw[nS HM.h];refine⟨rfl,⟨_,b0,fun k O=> .inl (bt k O),fun y j hj=>?_,hR⟩,L4.mono fun k O=> .inl ?_⟩
  ·have J:rF C x w w4 y j:=hj
   unfold rF at J
   split at J
   ·rcases J with J|J
    ·exact .inl (a2 x j J)
    ·exact .inr J
   ·exact .inl (a2 y j J)
  ·rcases O with O|rfl
   ·exact a2 x k O
   ·exact bt _ (.inr (.inl rfl))
theorem Cs (h:S[x]?=some M):S.set x M=S:=by
 apply fA;intro j
 by_cases D:j=x
 ·subst D
  rw[aD (az.1 h).1,h]
 ·rw[aZ (fun e=>D e.symm)]
theorem LI (s:Nat) (P:PD) (S:Sm) (G R:Nat->Prop) (x k:Nat) (M:BM) (r:iQ) (e:dn) (id aw:Int) (w:World) (h:dR w G R s P S) (hM:S[x]?=some M) (hr:r∈M.side k) (he:e∈r.2) (J:e.id=id) (hk:k<2) (hq:aw<1):
  Wz 72 #[Pz s,Iz id,Iz aw] w fun e w'=>e= .returned (Iz 24)/\Bz w w':=by
 obtain⟨C,hS,a8,ba,hR⟩:=h;obtain⟨kf,ki,bb,bc,kx⟩:=hS.known hM hr he;rw[J] at kf ki;obtain⟨b,M',hb,I,hB⟩:=hS.book kx;rw[hM] at I;injection I with I;subst I;obtain⟨gA,hA,hp⟩:=mB hS.ob hb;have O:=pU hS.mp ki;rw[kf] at O;simp only[qo,oG] at O;have ax:Cz w s 11 (.slice (some ⟨gA,0,none⟩) C.bs.length C.c):=hA▸hS.D.cell 11;have a0:Cz w s 12 (.map (some C.mb)):=hS.D.cell 12;have a2:gA<w.heap.size:=(hS.ob.lt gA (by rw[hA];rfl)).2;have a5:=hS.D.lt;obtain⟨N,eN⟩:=Zn C.bs.length;rw[<-eN] at ax;have bf:(x:Int)<N:=by rw[eN,hS.bn];omega
 obtain⟨HS,HB,HR,HE,ay,EN⟩:=FW hS hB hr he J eN;clear hS hB hM hr he ki kf hA eN hb kx J
 go_enter Tryz.func72,Tryz.ntmps72
 go_wp2_with fail;refine(Po b M (C.Fs x) k r e id aw w HB.h HR.h HE.h ay.h hq).mono ?_;rintro en w1⟨rfl,b1⟩;have bh:Cz w1 s 11 (.slice (some ⟨gA,0,none⟩) N C.c):=Yb b1 a5 ax;have dp:Cz w1 gA x (Pz b):=Yb b1 a2 hp;obtain⟨a6,a7⟩:=dF (HB.h.below b1) b1;clear ax a0 hp O b1;go_wp2_with fail;refine(yH b M _ k ((k:Int)+1) r e id w1 a6.h hk rfl HR.h HE.h ay.h).mono ?_;rintro en w2⟨rfl,b2⟩;go_wp2_with fail;go_ret;exact⟨rfl,au (dW a7.h b2) _⟩
theorem Ct:∀{es:List dn} {cs:List Int} {M:BM} {m:Nat} {e:dn} {c:Int},es[m]?=some e->cs[m]?=some c->ja M (es.take (m+1)) (cs.take (m+1))=if 0<c then (ja M (es.take m) (cs.take m)).cut e.id c else ja M (es.take m) (cs.take m)
 |[],cs,M,m,e,c,h,_=>by simp at h
 |x::es,[],M,m,e,c,_,h=>by simp at h
 |x::es,y::cs,M,0,e,c,h,D=>by
  simp at h D;subst h;subst D;simp[ja]
 |x::es,y::cs,M,m+1,e,c,h,D=>by
  simp only[nB,ja];exact Ct (by simpa using h) (by simpa using D)
theorem zq {x k:Nat} {p:Int}:∀{es:List dn} {cs:List Int} {m:Nat} {e:dn} {c:Int},es[m]?=some e->cs[m]?=some c->dC x k p (es.take (m+1)) (cs.take (m+1))=dC x k p (es.take m) (cs.take m)++if 0<c then [⟨e.id,x,k,p,c,e.aw - c⟩] else []
 |[],cs,m,e,c,h,_=>by simp at h
 |z::es,[],m,e,c,_,h=>by simp at h
 |z::es,y::cs,0,e,c,h,D=>by
  simp at h D;subst h;subst D
  by_cases hc:0<y<;>simp[dC,hc]
 |z::es,y::cs,m+1,e,c,h,D=>by
  have I:=zq (x:=x) (k:=k) (p:=p) (es:=es) (cs:=cs) (m:=m) (e:=e) (c:=c) (by simpa using h) (by simpa using D);simp only[nB,dC]
  by_cases hc:0<y
  ·simp only[if_pos hc,I,fO]
  ·simp only[if_neg hc,I]
theorem wQ:∀{es:List dn} {cs:List Int} {M:BM} {r:iQ} {e:dn},r∈M.side k->e∈r.2->(∀x∈es,x.id≠e.id)->∃r'∈(ja M es cs).side k,e∈r'.2
 |[],cs,M,r,e,hr,he,_=>by
  cases cs with
  |nil=>exact⟨r,hr,he⟩
  |cons a b=>exact⟨r,hr,he⟩
 |x::es,[],M,r,e,hr,he,_=>⟨r,hr,he⟩
 |x::es,y::cs,M,r,e,hr,he,hn=>by
  rw[ja]
  by_cases hc:0<y
  ·rw[if_pos hc]
   have hx:fS x.id y e=some e:=by unfold fS;rw[if_neg];exact fun h=>hn x bT h.symm
   obtain⟨r',I,J⟩:=rh hr he hx;exact wQ (r:=r') (by rw[rE];exact I) J fun z D=>hn z (by simp[D])
  ·rw[if_neg hc]
   exact wQ hr he fun z D=>hn z (by simp[D])
theorem xY:∀{l:List dn} {m:Nat} {e:dn},(l.map (·.id)).Nodup->l[m]?=some e->∀x∈l.take m,x.id≠e.id
 |[],m,e,_,h=>by simp at h
 |y::l,0,e,_,_=>by intro x hx;simp at hx
 |y::l,m+1,e,hn,h=>by
  rw[aW,yk] at hn;intro x hx;rw[nB] at hx;have D:l[m]?=some e:=by simpa using h
  rcases a9.1 hx with rfl|hx
  ·intro he
   exact hn.1 (aV.2 ⟨e,aH D,he.symm⟩)
  ·exact xY hn.2 D x hx
theorem Jp (h:r∈l):r.2.Sublist (gY l):=by
 unfold gY
 induction l with
 |nil=>cases h
 |cons x l D=>
  rw[bj];rcases a9.1 h with rfl|h
  ·exact TG _ _
  ·exact(D h).trans (QL _ _)
theorem Sg (h:r∈M.side k):r.2.Sublist M.I:=by
 unfold BM.side at h;unfold BM.I
 split at h
 ·exact(Jp h).trans (TG _ _)
 ·exact(Jp h).trans (QL _ _)
theorem EE.lvl (h:EE M) (hr:r∈M.side k):(r.2.map (·.id)).Nodup/\r.2.length<=250/\∀e∈r.2,1<=e.aw/\e.aw<=1000000/\dZ e.id:=by
 have hs:=Sg hr;exact⟨h.nd.sublist (hs.map _),aF hs.length_le h.cnt,fun e he=>h.ok e (hs.subset he)⟩
theorem Cu (s p:Int) (L:List dn):lT (L.map (kB s p))=L.map (·.aw):=by
 unfold lT;rw[di];rfl
theorem yL (I:P.gZ) (h:EE M) (hr:r∈M.side k) (hq:0<=q) (J:q<=mq r.2):(mA P k r q).length=r.2.length/\∀(m:Nat) (e:dn),r.2[m]?=some e->∃c,(mA P k r q)[m]?=some c/\0<=c/\c<=e.aw:=by
 obtain⟨h1,h2,h3⟩:=h.lvl hr;have O:eh (lT (r.2.map (kB ((k:Int)+1) r.1))) q=true:=by
  rw[iC,Cu];refine⟨by rw[br];exact h2,hq,fun n hn=>?_,J⟩;obtain⟨e,he,rfl⟩:=aV.1 hn;exact⟨(h3 e he).1,(h3 e he).2.1⟩
 have D:=VR (ru:=P.rule) (top:=P.top) (le:=P.least) (pa:=P.part) O (jE I.I8 I.I9) I.yB I.BP I.Ja I.Jb;rw[Cu] at D;refine⟨by have:=D.len;rw[br] at this;exact this,fun m e he=>?_⟩;exact D.at_ m e.aw (by rw[bo,he];rfl)
def fG.cells (f:fG):List Value:=[Iz f.id,Iz (f.inst:Int),Iz ((f.k:Int)+1),Iz f.ag,Iz f.aw,Iz f.left]
theorem fG.bG (f:fG):f.cells.length=6:=rfl
def gW (l:List fG):List Value:=l.flatMap fG.cells
theorem Jq (l:List fG) (f:fG):gW (l++[f])=gW l++f.cells:=by simp[gW]
theorem sK {x k:Nat} {p:Int}:∀(es:List dn) (cs:List Int),(dC x k p es cs).length<=es.length
 |[],cs=>by simp[dC]
 |e::es,[]=>by simp[dC]
 |e::es,c::cs=>by
  rw[dC];have:=sK (x:=x) (k:=k) (p:=p) es cs
  split
  ·simp;omega
  ·simp;omega
theorem CI (k:Nat):∀(l:List Qt) (b:Qt),l.foldl (fun b q=>if bz k q.ag b.ag=true then q else b) b=b\/l.foldl (fun b q=>if bz k q.ag b.ag=true then q else b) b∈l
 |[],b=> .inl rfl
 |q::l,b=>by
  rw[MW]
  by_cases h:bz k q.ag b.ag=true
  ·rw[if_pos h]
   rcases CI k l q with D|D
   ·rw[D];exact .inr bT
   ·exact .inr (bB _ D)
  ·rw[if_neg h]
   rcases CI k l b with D|D
   ·exact .inl D
   ·exact .inr (bB _ D)
theorem vt {l:List Qt} {q:Qt} (h:nF k l=some q):q∈l:=by
 cases l with
 |nil=>cases h
 |cons x l=>
  unfold nF at h;injection h with h;rcases CI k (x::l) x with D|D
  ·rw[D] at h;subst h;simp
  ·rw[h] at D;exact D
structure XS (n:Nat) (tp:kJ) (x k:Nat) (q:Qt):Prop where
 ne:q.i0≠q.i1
 k0:q.k0<2
 k1:q.k1<2
 t:∃p0 q0 p1 q1,tp q.i0 q.k0=some (p0,q0)∧tp q.i1 q.k1=some (p1,q1)∧q.aw=min q0 q1∧
  ((x<n∧q.i0=fv n x q.i1∧x<q.i1∧q.i1<n∧q.k0=k∧q.k1=k∧q.ag=p0+p1)∨
   (x<n∧q.i0=fv n q.i1 x∧q.i1<x∧q.k0=1 - k∧q.k1=k∧q.ag=p1 - p0)∨
   (n≤x∧q.i0=(cy n x).1∧q.i1=(cy n x).2∧q.k0=k∧q.k1=1 - k∧q.ag=p0 - p1))
theorem uG {tp:kJ} {a D kb:Nat} {less:Bool} {q:Qt} (h:xe tp a D b kb less=some q):q.i0=a/\q.k0=D/\q.i1=b/\q.k1=kb/\∃I q0 p1 q1,tp a D=some (I,q0)/\tp b kb=some (p1,q1)/\q.aw=min q0 q1/\q.ag=if less=true then p1 - I else I+p1:=by
 unfold xe at h
 split at h
 ·rename_i x y J O
  injection h with h;subst h;exact⟨rfl,rfl,rfl,rfl,x.1,x.2,y.1,y.2,J,O,rfl,rfl⟩
 ·cases h
theorem PD.gZ.quote (hP:P.gZ) {tp:kJ} {q:Qt} (hx:x<P.count) (hk:k<2) (h:q∈mG P.n tp x k):XS P.n tp x k q:=by
 unfold mG at h
 by_cases hn:x<P.n
 ·rw[if_pos hn] at h
  rcases aJ.1 h with h|h
  ·obtain⟨j,hj,h⟩:=ee.1 h
   rw[List.mem_range'_1] at hj;obtain⟨e1,e2,D,I,J,q0,p1,q1,O,h2,h3,h4⟩:=uG h;have hs:=hP.spread (i:=x) (j:=j) ae ae;refine⟨by rw[e1,D];omega,ae,ae,J,q0,p1,q1,e1▸e2▸O,D▸I▸h2,h3, .inl ⟨hn,by rw[e1,D],ae,ae,e2,I,by rw[h4];rfl⟩⟩
  ·obtain⟨i,hi,h⟩:=ee.1 h
   rw[iT] at hi;obtain⟨e1,e2,D,I,J,q0,p1,q1,O,h2,h3,h4⟩:=uG h;have hs:=hP.spread (i:=i) (j:=x) hi hn;refine⟨by rw[e1,D];omega,ae,ae,J,q0,p1,q1,e1▸e2▸O,D▸I▸h2,h3, .inr (.inl ⟨hn,by rw[e1,D],ae,e2,I,by rw[h4];rfl⟩)⟩
 ·rw[if_neg hn] at h
  have hl:=hP.RG (x:=x) ae hx
  cases hm:xe tp (cy P.n x).2 (1 - k) (cy P.n x).1 k true with
  |none=>rw[hm] at h;simp at h
  |some q'=>
   rw[hm] at h;simp at h;subst h;obtain⟨e1,e2,D,I,J,q0,p1,q1,O,h2,h3,h4⟩:=uG hm;have f1:(rp q').i0=(cy P.n x).1:=D;have f2:(rp q').k0=k:=I;have f3:(rp q').i1=(cy P.n x).2:=e1;have f4:(rp q').k1=1 - k:=e2;have f5:(rp q').aw=min q0 q1:=h3;have f6:(rp q').ag=p1 - J:=by show q'.ag=_;rw[h4];rfl
   exact⟨by rw[f1,f3];omega,ae,ae,p1,q1,J,q0,f1▸f2▸h2,f3▸f4▸O,by rw[f5];omega, .inr (.inr ⟨ae,f1,f3,f2,f4,f6⟩)⟩
theorem qF {tp:kJ} {q:Qt} (h:q∈iq P tp x k):q∈mG P.n tp x k/\P.fy x q.ag=0:=by
 obtain⟨D,I⟩:=lX.1 h;exact⟨D,by simpa using I⟩
theorem oE (h:lU S x k=some (p,q)):∃M r l,S[x]?=some M/\M.side k=r::l/\r.1=p/\mq r.2=q:=by
 unfold lU at h
 cases D:S[x]? with
 |none=>rw[D] at h;cases h
 |some M=>
  rw[D] at h;unfold yG at h
  cases hs:M.side k with
  |nil=>simp only[hs] at h;cases h
  |cons r l=>
   simp only[hs] at h;injection h with h;injection h with I J;exact⟨M,r,l,rfl,hs,I,J⟩
theorem Jx:∀{es:List dn} {cs:List Int},cs.length=es.length->1<=cs.sum->dC x k p es cs≠[]
 |[],[],_,h=>by simp at h
 |e::es,[],h,_=>by simp at h
 |[],c::cs,h,_=>by simp at h
 |e::es,c::cs,D,h=>by
  rw[dC]
  by_cases hc:0<c
  ·rw[if_pos hc];simp
  ·rw[if_neg hc]
   rw[cN] at h;exact Jx (by simpa using D) ae
theorem LQ (D:P.gZ) (h:EE M) (hr:r∈M.side k) (hq:0<=q) (I:q<=mq r.2):(mA P k r q).sum=q:=by
 obtain⟨h1,h2,O⟩:=h.lvl hr;have J:eh (lT (r.2.map (kB ((k:Int)+1) r.1))) q=true:=by
  rw[iC,Cu];refine⟨by rw[br];exact h2,hq,fun n hn=>?_,I⟩;obtain⟨e,he,rfl⟩:=aV.1 hn;exact⟨(O e he).1,(O e he).2.1⟩
 exact(VR (ru:=P.rule) (top:=P.top) (le:=P.least) (pa:=P.part) J (jE D.I8 D.I9) D.yB D.BP D.Ja D.Jb).sum
theorem uH (I:P.gZ) (h:EE M) (J:S[x]?=some M) (hs:M.side k=r::l) (hq:1<=q) (D:q<=mq r.2):(bM P S x k q).2≠[]/\(bM P S x k q).2.length<=250:=by
 have hr:r∈M.side k:=by rw[hs];simp
 have O:=yL I h hr ae D;have h2:=LQ I h hr ae D;unfold bM;rw[J];simp only[hs];exact⟨Jx O.1 ae,aF (sK _ _) (h.lvl hr).2.1⟩
theorem yN (h:y≠x):(bM P S x k q).1[y]?=S[y]?:=by
 unfold bM
 split
 ·rfl
 ·split
  ·rfl
  ·rw[aZ (fun e=>h e.symm)]
def rK (M' M:BM):Prop:=(∀e∈M'.I,∃e0∈M.I,e0.id=e.id)∧M'.I.length≤M.I.length
theorem rK.refl (M:BM):rK M M:=⟨fun e he=>⟨e,he,rfl⟩,af _⟩
theorem rK.trans {A B C:BM} (h:rK A B) (D:rK B C):rK A C:=⟨fun e he=>by
 obtain⟨I,J,O⟩:=h.1 e he;obtain⟨e1,h3,h4⟩:=D.1 I J;exact⟨e1,h3,h4.trans O⟩,aF h.2 D.2⟩
theorem rK.cut (M:BM) (id q:Int):rK (M.cut id q) M:=by
 constructor
 ·intro e he
  rw[iI] at he;obtain⟨D,I,J,_⟩:=pT he;exact⟨D,I,J⟩
 ·rw[iI]
  exact vK _ _
theorem rK.CL:∀(es:List dn) (cs:List Int) (M:BM),rK (ja M es cs) M
 |[],cs,M=>by unfold ja;exact rK.refl M
 |e::es,[],M=>by unfold ja;exact rK.refl M
 |e::es,c::cs,M=>by
  unfold ja;refine(rK.CL es cs _).trans ?_
  split
  ·exact rK.cut M e.id c
  ·exact rK.refl M
structure Sub (S' S:Sm):Prop where
 len:S'.length=S.length
 aK:∀(x:Nat) (M':BM) (e:dn),S'[x]?=some M'→e∈M'.I→∃M e0,S[x]?=some M∧e0∈M.I∧e0.id=e.id
 cnt:cK S'≤cK S
theorem Sub.refl (S:Sm):Sub S S:=⟨rfl,fun x M e D I=>⟨M,e,D,I,rfl⟩,af _⟩
theorem Sub.trans {A B C:Sm} (h:Sub A B) (D:Sub B C):Sub A C:=⟨h.len.trans D.len,fun x M e I J=>by
 obtain⟨O,e1,h3,h4,h5⟩:=h.aK x M e I J;obtain⟨M2,e2,h6,h7,h8⟩:=D.aK x O e1 h3 h4;exact⟨M2,e2,h6,h7,h8.trans h5⟩,aF h.cnt D.cnt⟩
theorem Sub.set (h:S[x]?=some M) (hs:rK M' M):Sub (S.set x M') S:=⟨bT,fun y N e D I=>by
 rcases nX D with⟨rfl,rfl⟩|⟨_,D⟩
 ·obtain⟨J,O,h4⟩:=hs.1 e I
  exact⟨M,J,h,O,h4⟩
 ·exact⟨N,e,D,I,rfl⟩,jE (lB h M') hs.2⟩
theorem Sub.cutAt (S:Sm) (x:Nat) (id q:Int):Sub (cutAt S x id q) S:=by
 unfold Go.Proofs.YtbaaheidifacaaaGreat.cutAt
 split
 ·rename_i M D
  exact Sub.set D (rK.cut M id q)
 ·exact Sub.refl S
theorem Sub.nr (P:PD) (S:Sm) (x k:Nat) (q:Int):Sub (bM P S x k q).1 S:=by
 unfold bM
 split
 ·exact Sub.refl S
 ·rename_i M D
  split
  ·exact Sub.refl S
  ·exact Sub.set D (rK.CL _ _ M)
theorem Sub.nT (P:PD) (S:Sm) (x k:Nat) (im:Option Qt) (t:Int):Sub (dA P S x k im t).1 S:=by
 cases im with
 |none=>exact Sub.nr P S x k t
 |some Q=>exact(Sub.nr P _ _ _ t).trans (Sub.nr P S _ _ t)
theorem Sub.run (P:PD):∀(f:Nat) (S:Sm) (x k:Nat) (ag aw:Int),Sub (dV P f S x k ag aw).1 S
 |0,S,_,_,_,_=>Sub.refl S
 |f+1,S,x,k,ag,aw=>by
  unfold dV
  split
  ·exact Sub.refl S
  ·split
   ·exact Sub.refl S
   ·rename_i p q im h
    split
    ·exact(Sub.run P f _ x k ag _).trans (Sub.nT P S x (1 - k) im _)
    ·exact Sub.refl S
def fI (S:Sm) (id:Int):Prop:=∃(x:Nat) (M:BM) (e:dn),S[x]?=some M∧e∈M.I∧e.id=id
theorem Sub.stands (h:Sub S' S) (hs:fI S' id):fI S id:=by
 obtain⟨x,M,e,D,I,J⟩:=hs;obtain⟨O,e0,h4,h5,h6⟩:=h.aK x M e D I;exact⟨x,O,e0,h4,h5,h6.trans J⟩
theorem Md {i:Int} (h:fI (oW S x k id p q) i):i=id\/fI S i:=by
 obtain⟨y,N,e,D,J,I⟩:=h;unfold oW at D
 split at D
 ·rename_i M hM
  rcases nX D with⟨rfl,rfl⟩|⟨_,D⟩
  ·rcases Co J with⟨O,_⟩|⟨e0,O,h5,_⟩
   ·exact .inl (by rw[<-I,O])
   ·exact .inr ⟨y,M,e0,hM,O,h5.trans I⟩
  ·exact .inr ⟨y,N,e,D,J,I⟩
 ·exact .inr ⟨y,N,e,D,J,I⟩
theorem dR.uniq (h:dR w G R s P S) {N:BM} (hM:S[x]?=some M) (he:e∈M.I) (hN:S[y]?=some N) (D:e'∈N.I) (J:e.id=e'.id):x=y:=by
 obtain⟨C,O,_⟩:=h;have a:=O.fw x M e hM he;have b:=O.fw y N e' hN D;rw[J,b] at a;injection a with a;injection a with _ a;omega
theorem dR.cnt (h:dR w G R s P S):cK S<=250:=by
 obtain⟨C,D,_⟩:=h;exact D.cnt
theorem dR.JH (h:dR w G R s P S) (J:S[x]?=some M):EE M:=by
 obtain⟨C,O,_⟩:=h;have I:x<P.count:=by rw[<-O.sn];exact(az.1 J).1
 obtain⟨b,M',_,D,h5⟩:=O.book I;rw[J] at D;injection D with D;subst D;exact h5.ok
theorem UE (h:dR w G R s P S) (D:S[x]?=some M) (he:e∈M.I):¬fI (cutAt S x e.id e.aw) e.id/\cK (cutAt S x e.id e.aw)+1=cK S:=by
 have hb:=h.JH D;rw[nS D];constructor
 ·rintro⟨y,N,e',J,O,h3⟩
  rcases nX J with⟨rfl,rfl⟩|⟨ax,J⟩
  ·rw[iI] at O
   exact yJ hb.nd he rfl (cM _) e' O h3
  ·exact ax (h.uniq J O D he h3)
 ·have h4:=lB D (M.cut e.id e.aw)
  have h5:=Ae hb.nd he rfl (cM e.aw);rw[<-iI] at h5;omega
structure vJ where
 m:Mk
 own:Int→Option Int
 on:Nat
def vJ.new (P:PD):vJ:=⟨Mk.new P,fun _=>none,0⟩
def gw (s:Int) (b:List UInt8):bN×Nat:=if s<0∨8≤s then (bN.zero,1) else zF b
def Mf (S:Sm):List Int:=S.flatMap fun M=>M.I.map (·.id)
def ya (G:vJ) (s:Int):Nat:=((Mf G.m.S).filter fun id=>(G.own id).getD 0==s).length
structure sN where
 Zi:Int
 r:ir
def Mg (s id fy:Int):List sN:=[⟨s,⟨2,id,0,0,0,0,0,fy⟩⟩]
def CP (own:Int→Option Int) (s:Int) (r:ir):Int→Option Int:=if r.kind=1 then fun y=>if y=r.id then some s else own y else own
def TJ (own:Int→Option Int) (on:Nat) (r:ir):Nat:=if r.kind=1 then (if (own r.id).isSome then on else on+1) else on
def XW (own:Int→Option Int) (s:Int) (r:ir):Int:=if r.kind=2 then s else (own r.id).getD 0
def mQ (s:Int):(Int→Option Int)×Nat→List ir→(Int→Option Int)×Nat
 |o,[]=>o
 |o,r::l=>mQ s (CP o.1 s r,TJ o.1 o.2 r) l
def qI (s:Int):(Int→Option Int)→List ir→List sN
 |_,[]=>[]
 |own,r::l=>⟨XW (CP own s r) s r,r⟩::qI s (CP own s r) l
def yb (P:PD) (G:vJ) (s:Int) (b:List UInt8):vJ×List sN:=
 if (gw s b).2≠0 then (G,Mg s 0 (gw s b).2)
 else if (gw s b).1.kind=1∧64≤ya G s then (G,Mg s (gw s b).1.id 30)
 else if (gw s b).1.kind≠1∧G.own (gw s b).1.id≠some s then (G,Mg s (gw s b).1.id 26)
 else
  (⟨(pC P G.m (gw s b).1).1,(mQ s (G.own,G.on) (pC P G.m (gw s b).1).2).1,(mQ s (G.own,G.on) (pC P G.m (gw s b).1).2).2⟩,qI s G.own (pC P G.m (gw s b).1).2)
theorem FE (s:Int):∀(l:List ir) (o:(Int->Option Int)×Nat) (r:ir),mQ s o (l++[r])=(CP (mQ s o l).1 s r,TJ (mQ s o l).1 (mQ s o l).2 r)
 |[],o,r=>rfl
 |x::l,o,r=>FE s l _ r
theorem FF (s:Int):∀(l:List ir) (o:(Int->Option Int)×Nat) (r:ir),qI s o.1 (l++[r])=qI s o.1 l++[⟨XW (CP (mQ s o l).1 s r) s r,r⟩]
 |[],o,r=>rfl
 |x::l,o,r=>by
  have:=FF s l (CP o.1 s x,TJ o.1 o.2 x) r;simp only[fO,qI,mQ] at this⊢;rw[this]
theorem WJ (own:Int->Option Int) (on:Nat) (r:ir):TJ own on r<=on+1:=by
 unfold TJ
 repeat' split
 all_goals omega
theorem JL (s:Int):∀(l:List ir) (o:(Int->Option Int)×Nat),(mQ s o l).2<=o.2+l.length
 |[],o=>by simp[mQ]
 |x::l,o=>by
  have D:=JL s l (CP o.1 s x,TJ o.1 o.2 x);have I:=WJ o.1 o.2 x;simp only[mQ,bI] at D⊢;omega
theorem pk (s:Int):∀(l:List ir) (own:Int->Option Int),(qI s own l).length=l.length
 |[],own=>rfl
 |x::l,own=>by simp[qI,pk s l]
theorem yR:∀{es:List dn} {cs:List Int} {f:fG},f∈dC x k p es cs->∃e∈es,f.id=e.id
 |e::es,c::cs,f,h=>by
  unfold dC at h
  split at h
  ·rcases a9.1 h with rfl|h
   ·exact⟨e,bT,rfl⟩
   ·obtain⟨e',D,I⟩:=yR h
    exact⟨e',by simp[D],I⟩
  ·obtain⟨e',D,I⟩:=yR h
   exact⟨e',by simp[D],I⟩
 |[],cs,f,h=>by cases cs<;>simp[dC] at h
 |e::es,[],f,h=>by simp[dC] at h
theorem yS (h:f∈(bM P S x k q).2):fI S f.id:=by
 unfold bM at h
 split at h
 ·cases h
 ·rename_i M D
  split at h
  ·cases h
  ·rename_i r l hs
   obtain⟨e,I,J⟩:=yR h;exact⟨x,M,e,D,fX (k:=k) (by rw[hs];simp) I,J.symm⟩
theorem Mj (h:f∈(dA P S x k im t).2):fI S f.id:=by
 unfold dA at h
 split at h
 ·exact yS h
 ·rcases aJ.1 h with h|h
  ·exact yS h
  ·exact(Sub.nr P S _ _ _).stands (yS h)
theorem NN (P:PD):∀(f:Nat) (S:Sm) (x k:Nat) (ag aw:Int) {st:jz} {y:fG},st∈(dV P f S x k ag aw).2.1->y∈st.U->fI S y.id
 |0,S,x,k,ag,aw,st,y,h,D=>by simp[dV] at h
 |f+1,S,x,k,ag,aw,st,y,h,D=>by
  unfold dV at h
  split at h
  ·simp at h
  ·split at h
   ·simp at h
   ·split at h
    ·rcases a9.1 h with rfl|h
     ·exact Mj D
     ·exact(Sub.nT P S _ _ _ _).stands (NN P f _ x k ag _ h D)
    ·simp at h
theorem JP {r:ir} (h:r'∈lz P st r):r'.id=r.id:=by
 unfold lz nW at h
 split at h
 ·simp at h;rw[h]
 ·simp at h
  rcases h with rfl|rfl|rfl<;>rfl
theorem SL {r:ir} (h:r∈nH P id x k st left):r.id=id\/∃y∈st.U,r.id=y.id:=by
 unfold nH at h;rcases aJ.1 h with h|h
 ·obtain⟨y,D,I⟩:=dD.1 h
  exact .inr ⟨y,D,JP I⟩
 ·exact .inl (JP h)
theorem FG:∀{l:List jz} {left:Int} {r:ir},r∈kj P id x k l left->r.id=id\/∃st∈l,∃y∈st.U,r.id=y.id
 |[],left,r,h=>by simp[kj] at h
 |st::l,left,r,h=>by
  unfold kj at h;rcases aJ.1 h with h|h
  ·rcases SL h with h|⟨y,D,I⟩
   ·exact .inl h
   ·exact .inr ⟨st,bT,y,D,I⟩
  ·rcases FG h with h|⟨J,O,y,D,I⟩
   ·exact .inl h
   ·exact .inr ⟨J,by simp[O],y,D,I⟩
theorem FH {r:ir} (h:r∈(iE P m id x k ag aw time).2):r.id=id\/fI m.S r.id:=by
 have key:∀r,r∈(⟨1,id,x,(k:Int)+1,ag,aw,aw,0⟩:ir)::kj P id x k (dV P aw.toNat m.S x k ag aw).2.1 aw->r.id=id\/fI m.S r.id:=fun r h=>by
  rcases a9.1 h with rfl|h
  ·exact .inl rfl
  ·rcases FG h with h|⟨st,D,y,I,J⟩
   ·exact .inl h
   ·exact .inr (J▸NN P _ _ _ _ _ _ D I)
 unfold iE at h;simp only at h
 split at h
 ·exact key r h
 ·split at h
  ·exact key r h
  ·rcases aJ.1 h with h|h
   ·exact key r h
   ·simp at h;rw[h];exact .inl rfl
theorem yd {fy:Int} {r:ir} (h:r∈mH id fy):r.id=id:=by simp[mH] at h;rw[h]
theorem WL {r:ir} (h:r∈(pC P m c).2):r.id=c.id\/fI m.S r.id:=by
 unfold pC at h
 split at h
 ·exact .inl (yd h)
 ·split at h
  ·unfold lW at h
   simp only at h
   repeat' split at h
   all_goals first
    |exact .inl (yd h)
    |exact FH h
  ·split at h
   ·exact .inl (yd h)
   ·rename_i x k p e hf
    split at h
    ·unfold replaceM at h
     simp only at h
     repeat' split at h
     ·exact .inl (yd h)
     ·simp[jh] at h;rw[h];exact .inl rfl
     ·exact .inl (yd h)
     ·rcases aJ.1 h with h|h
      ·simp[dG] at h;rw[h];exact .inl rfl
      ·rcases FH h with h|h
       ·exact .inl h
       ·exact .inr ((Sub.cutAt _ _ _ _).stands h)
    ·split at h
     ·simp[dG] at h;rw[h];exact .inl rfl
     ·simp[jh] at h;rw[h];exact .inl rfl
def pY (k:Nat) (l:List Qt):mE×Bool:=match nF k l with
 |none=>(⟨0,0,0⟩,false)
 |some b=>(⟨b.ag,l.foldl (fun a q=>if q.ag=b.ag then max a q.aw else a) b.aw,((l.filter fun q=>q.ag==b.ag).length:Int)⟩,true)
structure Ml where
 lv:List mE
 im:mE
 has:Bool
def Ml.zero:Ml:=⟨[],⟨0,0,0⟩,false⟩
abbrev vZ:=List (Ml×Ml)
def kK (P:PD) (S:Sm) (x k:Nat):Ml:=
 ⟨match S[x]? with|some M=>(M.side k).map vH|none=>[],(pY k (iq P (lU S) x k)).1,(pY k (iq P (lU S) x k)).2⟩
def kN (P:PD) (S:Sm):vZ:=(List.range P.count).map fun x=>(kK P S x 0,kK P S x 1)
def VV (a b:mE):Bool:=a.ag==b.ag && a.aw==b.aw && a.count==b.count
def je (k:Nat):List mE→List mE→Nat
 |[],ys=>ys.length
 |x::xs,ys=>aux x xs ys
where
 aux (x:mE) (xs:List mE):List mE→Nat
 |[]=>xs.length+1
 |y::ys=>if bz k x.ag y.ag=true then 1+je k xs (y::ys) else if bz k y.ag x.ag=true then 1+aux x xs ys else (if VV x y=true then 0 else 1)+je k xs ys
def jR (k:Nat) (a b:Ml):Nat:=je k a.lv b.lv+if VV a.im b.im=true∧a.has=b.has then 0 else 1
def wj (a b:vZ):Nat:=((a.zip b).map fun x=>jR 0 x.1.1 x.2.1+jR 1 x.1.2 x.2.2).sum
section
structure SB (c:Int) (S:Sm):Prop where
 q:∀M∈S,∀e∈M.I,1≤e.aw∧e.aw≤c
 ne:∀M∈S,∀k,∀r∈M.side k,r.2≠[]
theorem SB.at_ {c:Int} (h:SB c S) (D:S[x]?=some M) (hr:r∈M.side k):r.2≠[]/\∀e∈r.2,1<=e.aw/\e.aw<=c:=
 ⟨h.ne M (aH D) k r hr,fun e he=>h.q M (aH D) e (fX hr he)⟩
theorem SB.X6 {c:Int} (hq:∀e∈M.I,1<=e.aw/\e.aw<=c) (id q:Int) (h0:0<=q):∀e∈(M.cut id q).I,1<=e.aw/\e.aw<=c:=fun e he=>by
 rw[iI] at he;obtain⟨D,J,h2,h3,O,h5⟩:=pT he;have h6:=hq D J
 by_cases hi:D.id=id
 ·obtain⟨h7,rfl⟩:=h5 hi
  simp only;omega
 ·rw[O hi];exact h6
theorem UT (h:r∈kZ id q l):r.2≠[]:=by
 unfold kZ at h;have:=(lX.1 h).2;intro e;rw[e] at this;simp at this
theorem Mo (h:r∈(M.cut id q).side k):r.2≠[]:=by
 rw[rE] at h;exact UT h
def P9 (c:Int) (M:BM):Prop:=(∀e∈M.I,1≤e.aw∧e.aw≤c)∧∀k,∀r∈M.side k,r.2≠[]
theorem P9.cut {c:Int} (h:P9 c M) (id q:Int) (D:0<=q):P9 c (M.cut id q):=⟨SB.X6 h.1 id q D,fun k r hr=>Mo hr⟩
theorem P9.CL {c:Int}:∀(es:List dn) (cs:List Int) (M:BM),P9 c M->P9 c (ja M es cs)
 |e::es,d::cs,M,h=>by
  unfold ja;refine P9.CL es cs _ ?_
  split
  ·exact h.cut _ _ ae
  ·exact h
 |[],cs,M,h=>by cases cs<;>(unfold ja;exact h)
 |e::es,[],M,h=>by unfold ja;exact h
theorem SB.bm {c:Int} (h:SB c S) (D:S[x]?=some M):P9 c M:=⟨h.q M (aH D),h.ne M (aH D)⟩
theorem SB.set {c:Int} (h:SB c S) (x:Nat) (J:P9 c M):SB c (S.set x M):=by
 have key:∀N∈S.set x M,P9 c N:=fun N D=>by
  rcases uO D with I|rfl
  ·exact⟨h.q N I,h.ne N I⟩
  ·exact J
 exact⟨fun N D=>(key N D).1,fun N D=>(key N D).2⟩
theorem SB.nr {c:Int} (h:SB c S) (x k:Nat) (q:Int):SB c (bM P S x k q).1:=by
 unfold bM
 split
 ·exact h
 ·rename_i M D
  split
  ·exact h
  ·exact h.set x ((h.bm D).CL _ _)
theorem SB.nT {c:Int} (h:SB c S) (x k:Nat) (im:Option Qt) (t:Int):SB c (dA P S x k im t).1:=by
 unfold dA
 split
 ·exact h.nr _ _ _
 ·exact(h.nr _ _ _).nr _ _ _
theorem SB.tp {c:Int} (h:SB c S) (O:lU S x k=some (p,q)):1<=q:=by
 obtain⟨M,r,l,J,D,h3,h4⟩:=oE O;have I:=h.at_ J (k:=k) (r:=r) (by rw[D];simp);rw[<-h4]
 cases he:r.2 with
 |nil=>exact absurd he I.1
 |cons e es=>
  have:∀es:List dn,(∀e∈es,1<=e.aw)->0<=mq es:=fun es=>by
   induction es with
   |nil=>intro _;simp[mq]
   |cons a es ih=>
    intro ha;have J:=ha a bT;have D:=ih fun e he=>ha e (by simp[he]);simp only[mq,aW,cN] at D⊢;omega
  have h6:=this es fun a ha=>(I.2 a (by rw[he];simp[ha])).1;have h7:=(I.2 e (by rw[he];simp)).1;simp only[mq,aW,cN] at h6⊢;omega
theorem GV {tp:kJ} (D:∀x k p q,tp x k=some (p,q)->1<=q) {a I kb:Nat} {less:Bool} {q:Qt} (h:xe tp a I b kb less=some q):1<=q.aw:=by
 obtain⟨_,_,_,_,p0,q0,p1,q1,J,O,h3,_⟩:=uG h;have:=D _ _ _ _ J;have:=D _ _ _ _ O;omega
theorem SV {tp:kJ} (D:∀x k p q,tp x k=some (p,q)->1<=q) {q:Qt} (h:q∈mG n tp x k):1<=q.aw:=by
 unfold mG at h
 split at h
 ·rcases aJ.1 h with h|h
  ·obtain⟨j,_,I⟩:=ee.1 h;exact GV D I
  ·obtain⟨j,_,I⟩:=ee.1 h;exact GV D I
 ·cases hm:xe tp (cy n x).2 (1 - k) (cy n x).1 k true with
  |none=>rw[hm] at h;simp at h
  |some q'=>
   rw[hm] at h;simp at h;rw[h];have:=GV D hm;exact this
theorem SB.next {c:Int} (h:SB c S) (hn:jZ P S x k=some (p,q,im)):1<=q:=by
 unfold jZ at hn;have O:∀q',nF k (iq P (lU S) x k)=some q'->1<=q'.aw:=fun q' J=>SV (fun x k p q=>h.tp) (qF (vt J)).1
 split at hn
 ·rename_i r q' D I
  split at hn
  ·injection hn with hn;injection hn with _ hn;injection hn with hn;rw[<-hn];exact O q' I
  ·injection hn with hn;injection hn with _ hn;injection hn with hn;rw[<-hn];exact h.tp (p:=r.1) (by rw[D])
 ·rename_i r D I
  injection hn with hn;injection hn with _ hn;injection hn with hn;rw[<-hn];exact h.tp (p:=r.1) (by rw[D])
 ·rename_i q' D I
  injection hn with hn;injection hn with _ hn;injection hn with hn;rw[<-hn];exact O q' I
 ·cases hn
end
structure pn (P:PD) (S:Sm):Prop where
 right:P.gZ
 sn:S.length=P.count
 xX:∀(x:Nat) (M:BM),S[x]?=some M→EE M
 pr:∀(x k:Nat) (M:BM) (r:iQ),S[x]?=some M→r∈M.side k→P.fy x r.1=0
 uq:∀(x y:Nat) (M N:BM) (e e':dn),S[x]?=some M→e∈M.I→S[y]?=some N→e'∈N.I→e.id=e'.id→x=y
 cnt:cK S≤250
theorem dR.fine (h:dR w G R s P S):pn P S:=
 ⟨h.right,h.len,fun x M=>h.JH,by obtain⟨C,D,_⟩:=h;exact D.pr,fun x y M N e e' D I J O h5=>h.uniq D I J O h5,h.cnt⟩
theorem NP (id q:Int):∀l:List dn,((l.filterMap (fS id q)).map (·.id)).Sublist (l.map (·.id))
 |[]=>bT
 |e::l=>by
  have D:=NP id q l;rw[dr,aW]
  cases hc:fS id q e with
  |none=>exact D.cons _
  |some e'=>
   simp only[aW];rw[(ve hc).1];exact D.cons_cons _
structure DS (M' M:BM):Prop where
 ok:EE M→EE M'
 st:∀(k:Nat) (r':iQ) (e':dn),r'∈M'.side k→e'∈r'.2→∃r∈M.side k,r.1=r'.1∧∃e∈r.2,e.id=e'.id∧e'.aw≤e.aw
 len:M'.I.length≤M.I.length
theorem DS.refl (M:BM):DS M M:=⟨fun h=>h,fun k r e D I=>⟨r,D,rfl,e,I,rfl,ae⟩,af _⟩
theorem DS.trans {A B C:BM} (h:DS A B) (D:DS B C):DS A C:=⟨fun I=>h.ok (D.ok I),fun k r e J O=>by
 obtain⟨r1,a1,a2,e1,a3,a4,a5⟩:=h.st k r e J O;obtain⟨r2,b1,b2,e2,b3,b4,b5⟩:=D.st k r1 e1 a1 a3;exact⟨r2,b1,b2.trans a2,e2,b3,b4.trans a4,ae⟩,aF h.len D.len⟩
theorem JT (h:l.Pairwise (fun a b=>bz k a.1 b.1=true)):(kZ id q l).Pairwise (fun a b=>bz k a.1 b.1=true):=by
 unfold kZ;refine List.Pairwise.filter _ ?_;rw[vF];exact h
theorem WR (h0:0<=q) {r':iQ} (D:r'∈kZ id q l) (J:e'∈r'.2):∃r∈l,r.1=r'.1/\∃e∈r.2,e.id=e'.id/\e'.aw<=e.aw:=by
 unfold kZ at D;obtain⟨r,hr,rfl⟩:=aV.1 (lX.1 D).1;obtain⟨I,a1,O,a3,a4,a5⟩:=pT J;refine⟨r,hr,rfl,I,a1,O,?_⟩
 by_cases hi:I.id=id
 ·obtain⟨b1,rfl⟩:=a5 hi
  simp only;omega
 ·rw[a4 hi];omega
theorem DS.cut (M:BM) (id q:Int) (J:0<=q):DS (M.cut id q) M:=by
 refine⟨fun h=>?_,fun k r e O h2=>?_,(rK.cut M id q).2⟩
 ·have D:=SB.X6 (M:=M) (c:=1000000) (fun e he=>⟨(h.ok e he).1,(h.ok e he).2.1⟩) id q J
  refine⟨?_,fun e he=>⟨(D e he).1,(D e he).2,?_⟩,fun r hr=>?_,fun r hr=>?_,?_,?_,aF (rK.cut M id q).2 h.cnt⟩
  ·rw[iI]
   exact List.Pairwise.sublist (NP id q M.I) h.nd
  ·rw[iI] at he
   obtain⟨e0,a1,a2,_⟩:=pT he;rw[<-a2];exact(h.ok e0 a1).2.2
  ·exact Mo (M:=M) (id:=id) (q:=q) (k:=0) hr
  ·exact Mo (M:=M) (id:=id) (q:=q) (k:=1) hr
  ·exact JT h.oU
  ·exact JT h.oV
 ·rw[rE] at O
  exact WR J O h2
theorem DS.CL:∀(es:List dn) (cs:List Int) (M:BM),DS (ja M es cs) M
 |e::es,c::cs,M=>by
  unfold ja;refine(DS.CL es cs _).trans ?_
  split
  ·exact DS.cut M e.id c ae
  ·exact DS.refl M
 |[],cs,M=>by cases cs<;>(unfold ja;exact DS.refl M)
 |e::es,[],M=>by unfold ja;exact DS.refl M
theorem FM (h:e∈M.I):∃k<2,∃r∈M.side k,e∈r.2:=by
 unfold BM.I at h;rcases aJ.1 h with h|h
 ·obtain⟨r,D,J⟩:=dD.1 h
  exact⟨0,ae,r,D,J⟩
 ·obtain⟨r,D,J⟩:=dD.1 h
  exact⟨1,ae,r,D,J⟩
theorem GW (h:EE M) (hr:r∈M.side k):r.2≠[]:=by
 unfold BM.side at hr
 split at hr
 ·exact h.XL r hr
 ·exact h.Ol r hr
def At (S:Sm) (x k:Nat) (p id:Int):Prop:=∃M r e,S[x]?=some M∧r∈M.side k∧r.1=p∧e∈r.2∧e.id=id
structure iy (S' S:Sm):Prop where
 len:S'.length=S.length
 sh:∀(x:Nat) (M':BM),S'[x]?=some M'→∃M,S[x]?=some M∧DS M' M
 cnt:cK S'≤cK S
theorem iy.refl (S:Sm):iy S S:=⟨rfl,fun x M h=>⟨M,h,DS.refl M⟩,af _⟩
theorem iy.trans {A B C:Sm} (h:iy A B) (D:iy B C):iy A C:=⟨h.len.trans D.len,fun x M I=>by
 obtain⟨J,a1,O⟩:=h.sh x M I;obtain⟨M2,b1,b2⟩:=D.sh x J a1;exact⟨M2,b1,O.trans b2⟩,aF h.cnt D.cnt⟩
theorem iy.set (h:S[x]?=some M) (hs:DS M' M):iy (S.set x M') S:=⟨bT,fun y N D=>by
 rcases nX D with⟨rfl,rfl⟩|⟨_,I⟩
 ·exact⟨M,h,hs⟩
 ·exact⟨N,I,DS.refl N⟩,jE (lB h M') hs.len⟩
theorem iy.nr (P:PD) (S:Sm) (x k:Nat) (q:Int):iy (bM P S x k q).1 S:=by
 unfold bM
 split
 ·exact iy.refl S
 ·rename_i M D
  split
  ·exact iy.refl S
  ·exact iy.set D (DS.CL _ _ M)
theorem iy.nT (P:PD) (S:Sm) (x k:Nat) (im:Option Qt) (t:Int):iy (dA P S x k im t).1 S:=by
 unfold dA
 split
 ·exact iy.nr P S x k t
 ·exact(iy.nr P _ _ _ t).trans (iy.nr P S _ _ t)
theorem iy.cutAt (S:Sm) (x:Nat) (id q:Int) (D:0<=q):iy (cutAt S x id q) S:=by
 unfold Go.Proofs.YtbaaheidifacaaaGreat.cutAt
 split
 ·rename_i M I
  exact iy.set I (DS.cut M id q D)
 ·exact iy.refl S
theorem iy.run (P:PD) (x k:Nat) (ag:Int):∀(f:Nat) (S:Sm) (aw:Int),iy (dV P f S x k ag aw).1 S
 |0,S,aw=>iy.refl S
 |f+1,S,aw=>by
  unfold dV
  split
  ·exact iy.refl S
  ·split
   ·exact iy.refl S
   ·split
    ·exact(iy.run P x k ag f _ _).trans (iy.nT P S _ _ _ _)
    ·exact iy.refl S
theorem iy.at_ (h:iy S' S) (ha:At S' x k p id):At S x k p id:=by
 obtain⟨M',r',e',D,I,J,O,h5⟩:=ha;obtain⟨M,a1,a2⟩:=h.sh x M' D;obtain⟨r,b1,b2,e,b3,b4,_⟩:=a2.st k r' e' I O;exact⟨M,r,e,a1,b1,b2.trans J,b3,b4.trans h5⟩
theorem iy.aK (h:iy S' S) (D:S'[x]?=some M') (J:e'∈M'.I):∃M e,S[x]?=some M/\e∈M.I/\e.id=e'.id:=by
 obtain⟨k,_,r,hr,he⟩:=FM J;obtain⟨M,a1,O⟩:=h.sh x M' D;obtain⟨r0,b1,b2,e,b3,b4,_⟩:=O.st k r e' hr he;exact⟨M,e,a1,fX b1 b3,b4⟩
theorem iy.stands (h:iy S' S) (hs:fI S' id):fI S id:=by
 obtain⟨x,M',e',D,I,J⟩:=hs;obtain⟨M,e,a1,O,a3⟩:=h.aK D I;exact⟨x,M,e,a1,O,a3.trans J⟩
theorem pn.less (h:pn P S) (I:iy S' S):pn P S':=by
 refine⟨h.right,I.len.trans h.sn,fun x M' D=>?_,fun x k M' r D hr=>?_,fun x y M N e e' h1 h2 h3 h4 h5=>?_,aF I.cnt h.cnt⟩
 ·obtain⟨M,a1,J⟩:=I.sh x M' D
  exact J.ok (h.xX x M a1)
 ·obtain⟨M,a1,J⟩:=I.sh x M' D
  have O:=GW (J.ok (h.xX x M a1)) hr;obtain⟨e,l,he⟩:=QE O;obtain⟨r0,b1,b2,_⟩:=J.st k r e hr (by rw[he];simp);rw[<-b2];exact h.pr x k M r0 a1 b1
 ·obtain⟨M0,e0,a1,J,a3⟩:=I.aK h1 h2
  obtain⟨N0,ax,b1,b2,b3⟩:=I.aK h3 h4;exact h.uq x y M0 N0 e0 ax a1 J b1 b2 (a3.trans (h5.trans b3.symm))
structure Mp (P:PD) (S:Sm) (x k:Nat) (ag:Int) (S':Sm) (q' p q:Int) (im:Option Qt) (st:jz):Prop where
 fine:pn P S'
 less:iy S' S
 q1:1≤q'
 next:jZ P S' x (1 - k)=some (p,q,im)
 US:lp k ag p=true
 st:st=⟨p,min q' q,im.isSome,(dA P S' x (1 - k) im (min q' q)).2⟩
theorem CW (x k:Nat) (ag:Int):∀(f:Nat) (S:Sm) (aw:Int),pn P S->∀st∈(dV P f S x k ag aw).2.1,∃S' q' p q im,Mp P S x k ag S' q' p q im st
 |0,S,aw,hS,st,h=>by simp[dV] at h
 |f+1,S,aw,hS,st,h=>by
  unfold dV at h
  split at h
  ·simp at h
  ·rename_i hq
   split at h
   ·simp at h
   ·rename_i p q im hn
    split at h
    ·rename_i hg
     rcases a9.1 h with rfl|h
     ·exact⟨S,aw,p,q,im,hS,iy.refl S,ae,hn,hg,rfl⟩
     ·have I:=iy.nT P S x (1 - k) im (min aw q)
      obtain⟨S',q',J,q2,D,a⟩:=CW x k ag f _ _ (hS.less I) st h;exact⟨S',q',J,q2,D,a.fine,a.less.trans I,a.q1,a.next,a.US,a.st⟩
    ·simp at h
theorem Qa (h:jZ P S x k=some (p,q,none)):lU S x k=some (p,q):=by
 unfold jZ at h
 split at h
 ·rename_i r q' D J
  split at h
  ·injection h with h;injection h with _ h;injection h with _ h;cases h
  ·injection h with h;injection h with ha h;injection h with I h
   rw[D,<-ha,<-I]
 ·rename_i r D J
  injection h with h;injection h with ha h;injection h with I h;rw[D,<-ha,<-I]
 ·injection h with h;injection h with _ h;injection h with _ h;cases h
 ·cases h
theorem pn.sb (h:pn P S):SB 1000000 S:=by
 refine⟨fun M D e he=>?_,fun M D k r hr=>?_⟩
 ·obtain⟨x,hx,rfl⟩:=kv.1 D
  have:=(h.xX x _ (aj hx)).ok e he;exact⟨this.1,this.2.1⟩
 ·obtain⟨x,hx,rfl⟩:=kv.1 D
  exact GW (h.xX x _ (aj hx)) hr
section
theorem SZ {tp:kJ} {a D kb:Nat} {less:Bool} {q:Qt} (h:xe tp a D b kb less=some q):q.k0=D/\q.k1=kb:=by
 obtain⟨_,I,_,J,_⟩:=uG h;exact⟨I,J⟩
theorem WU {tp:kJ} {q:Qt} (I:k<2) (h:q∈mG n tp x k):q.k0<2/\q.k1<2:=by
 unfold mG at h
 split at h
 ·rcases aJ.1 h with h|h
  ·obtain⟨j,_,D⟩:=ee.1 h
   have:=SZ D;omega
  ·obtain⟨j,_,D⟩:=ee.1 h
   have:=SZ D;omega
 ·cases hm:xe tp (cy n x).2 (1 - k) (cy n x).1 k true with
  |none=>rw[hm] at h;simp at h
  |some q'=>
   rw[hm] at h;simp at h;rw[h];have:=SZ hm;unfold rp;simp only;omega
theorem NQ (hk:k<2) (h:jZ P S x k=some (p,q,im)):∀y,im=some y->y∈mG P.n (lU S) x k/\y.k0<2/\y.k1<2/\P.fy x y.ag=0/\p=y.ag/\q=y.aw:=by
 intro y hy;subst hy;have O:∀q',nF k (iq P (lU S) x k)=some q'->q'∈mG P.n (lU S) x k/\q'.k0<2/\q'.k1<2/\P.fy x q'.ag=0:=fun q' J=>by
  have I:=qF (vt J);have D:=WU hk I.1;exact⟨I.1,D.1,D.2,I.2⟩
 unfold jZ at h
 split at h
 ·rename_i r q' I D
  split at h
  ·injection h with h;injection h with ha h;injection h with hc h;injection h with h;subst h
   obtain⟨a,b,c,d⟩:=O _ D;exact⟨a,b,c,d,ha.symm,hc.symm⟩
  ·injection h with h;injection h with _ h;injection h with _ h;cases h
 ·injection h with h;injection h with _ h;injection h with _ h;cases h
 ·rename_i q' I D
  injection h with h;injection h with ha h;injection h with hc h;injection h with h;subst h;obtain⟨a,b,c,d⟩:=O _ D;exact⟨a,b,c,d,ha.symm,hc.symm⟩
 ·cases h
theorem CX:∀{es:List dn} {cs:List Int} {f:fG},f∈dC x k p es cs->f.inst=x/\f.k=k/\f.ag=p/\0<f.aw/\∃e∈es,f.id=e.id/\f.left=e.aw - f.aw
 |[],cs,f,h=>by cases cs<;>simp[dC] at h
 |e::es,[],f,h=>by simp[dC] at h
 |e::es,c::cs,f,h=>by
  unfold dC at h;have D:f∈dC x k p es cs->f.inst=x/\f.k=k/\f.ag=p/\0<f.aw/\∃e'∈e::es,f.id=e'.id/\f.left=e'.aw - f.aw:=fun h=>by
   obtain⟨I,J,O,h4,e',h5,h6⟩:=CX h;exact⟨I,J,O,h4,e',by simp[h5],h6⟩
  split at h
  ·rename_i hc
   rcases a9.1 h with rfl|h
   ·exact⟨rfl,rfl,rfl,hc,e,bT,rfl,rfl⟩
   ·exact D h
  ·exact D h
theorem sR (h:f∈(bM P S x k q).2):f.inst=x/\f.k=k/\0<f.aw/\∃M r l,S[x]?=some M/\M.side k=r::l/\f.ag=r.1/\∃e∈r.2,f.id=e.id/\f.left=e.aw - f.aw:=by
 unfold bM at h
 split at h
 ·simp at h
 ·rename_i M D
  split at h
  ·simp at h
  ·rename_i r l hs
   obtain⟨I,J,O,h4,h5⟩:=CX h;exact⟨I,J,h4,M,r,l,D,hs,O,h5⟩
end
structure YU (c:bN):Prop where
 side:c.side=1∨c.side=2
 q1:1≤c.aw
 q2:c.aw≤1000000
theorem CY (h:dx c=0) (hk:c.kind=1):YU c:=by
 unfold dx wN at h
 by_cases h1:c.kind<1\/4<c.kind
 ·omega
 rw[if_neg h1] at h
 by_cases D:c.id<1\/1099511627776<c.id
 ·rw[if_pos D] at h;cases h
 rw[if_neg D,if_pos hk] at h
 by_cases I:c.side≠1/\c.side≠2
 ·rw[if_pos I] at h;cases h
 rw[if_neg I] at h
 by_cases J:c.time<1\/3<c.time
 ·rw[if_pos J] at h;cases h
 rw[if_neg J] at h
 by_cases O:¬kL c.aw
 ·rw[if_pos O] at h;cases h
 have h6:kL c.aw:=by
  by_cases hh:kL c.aw
  ·exact hh
  ·exact absurd hh O
 exact⟨ae,h6.1,h6.2⟩
theorem sS (h:dx c=0) (hk:c.kind≠1) (D:c.kind≠2):1<=c.aw/\c.aw<=1000000:=by
 unfold dx at h
 by_cases I:c.kind<1\/4<c.kind
 ·rw[if_pos I] at h;cases h
 rw[if_neg I] at h
 by_cases J:c.id<1\/1099511627776<c.id
 ·rw[if_pos J] at h;cases h
 rw[if_neg J,if_neg hk] at h
 by_cases O:kL c.aw
 ·exact O
 ·rw[if_pos ⟨D,O⟩] at h;cases h
theorem CZ {P:PD} (x k:Nat) (ag:Int):∀(f:Nat) (S:Sm) (aw:Int),SB 1000000 S->0<=aw->0<=(dV P f S x k ag aw).2.2/\(dV P f S x k ag aw).2.2<=aw
 |0,S,aw,_,h=>⟨h,cM _⟩
 |f+1,S,aw,hS,h=>by
  unfold dV
  split
  ·exact⟨h,cM _⟩
  ·split
   ·exact⟨h,cM _⟩
   ·rename_i p q im hn
    split
    ·have I:=hS.next hn
     have D:=CZ (P:=P) x k ag f (dA P S x (1 - k) im (min aw q)).1 (aw - min aw q) (hS.nT _ _ _ _) ae;exact⟨D.1,by have:=D.2;simp only at this⊢;omega⟩
    ·exact⟨h,cM _⟩
structure Yf (P:PD) (r a b:ir):Prop where
 ak:a.kind=3
 bk:b.kind=3
 ZF:a.id=r.id
 ZG:b.id=r.id
 ai:a.inst=((cy P.n r.inst.toNat).1:Int)
 bi:b.inst=((cy P.n r.inst.toNat).2:Int)
 sa:a.side=r.side
 sb:b.side≠r.side
 aq:a.aw=r.aw
 bq:b.aw=r.aw
 al:a.left=r.left
 bl:b.left=r.left
 pr:a.ag - b.ag=r.ag
 wa:P.fy (cy P.n r.inst.toNat).1 a.ag=0
 wb:P.fy (cy P.n r.inst.toNat).2 b.ag=0
 an:(cy P.n r.inst.toNat).1<P.n
 bn:(cy P.n r.inst.toNat).2<P.n
structure zL (P:PD) (r:ir):Prop where
 inst:∃x:Nat,r.inst=(x:Int)∧x<P.count
 ag: -2000000≤r.ag∧r.ag≤2000000
 aw:0≤r.aw∧r.aw≤1000000
 left:0≤r.left∧r.left≤1000000
inductive jf (P:PD):List ir→Prop
 |nil:jf P []
 |one (r:ir) (l:List ir):zL P r→(r.kind≠3∨r.inst<P.n)→jf P l→jf P (r::l)
 |three (r a b:ir) (l:List ir):zL P r→zL P a→zL P b→Yf P r a b→jf P l→jf P (r::a::b::l)
theorem jf.all {l:List ir} (h:jf P l):∀r∈l,zL P r:=by
 induction h with
 |nil=>intro r hr;cases hr
 |one r l J h _ I=>
  intro y D;rcases a9.1 D with rfl|D
  ·exact J
  ·exact I y D
 |three r a b l O h2 h3 h _ I=>
  intro y D;rcases a9.1 D with rfl|D
  ·exact O
  ·rcases a9.1 D with rfl|D
   ·exact h2
   ·rcases a9.1 D with rfl|D
    ·exact h3
    ·exact I y D
theorem jf.app {l m:List ir} (h:jf P l) (hm:jf P m):jf P (l++m):=by
 induction h with
 |nil=>exact hm
 |one r l I h _ D=>exact .one r _ I h D
 |three r a b l J O h3 h _ D=>exact .three r a b _ J O h3 h D
theorem jf.flat {α:Type} {l:List α} {f:α->List ir} (h:∀x∈l,jf P (f x)):jf P (l.flatMap f):=by
 induction l with
 |nil=>exact .nil
 |cons x l D=>
  rw[bj];exact(h x bT).app (D fun y I=>h y (by simp[I]))
theorem pD (hx:x<P.n) (D:P.tick∣p) (I:P.low<=p) (J:p<=P.high):P.fy x p=0:=by
 unfold PD.fy PD.lo PD.hi;rw[if_pos hx,if_pos hx,if_neg (by simpa using TL D),if_neg ae]
theorem S9 (I:P.gZ) (h1:P.n<=x) (h2:x<P.count) (hp:P.fy x p=0):
  (lu P x p).1 - (lu P x p).2=p/\P.fy (cy P.n x).1 (lu P x p).1=0/\P.fy (cy P.n x).2 (lu P x p).2=0:=by
 obtain⟨a1,J,_⟩:=I.RG h1 h2;obtain⟨_,_,b3,b4,b5⟩:=I.ag hp;unfold PD.lo at b4;unfold PD.hi at b5;rw[if_neg ae] at b4 b5;obtain⟨D,O⟩:=Zn (P.settle.getD (cy P.n x).2 0);have hf:P.tick∣D/\P.low<=D/\D<=P.high:=by
  have hl:(cy P.n x).2<P.settle.length:=by rw[I.vI];exact J
  rw[O,jI,aj hl];exact I.KY _ (nv hl)
 have c1:=I.Nr;have c2:=I.Uh;have c3:=I.E5;have c4:=I.lh;have c5:=I.EK;have n1:(cy P.n x).1<P.n:=ae;unfold lu;rw[<-O]
 by_cases h3:P.high<D+p
 ·simp only[if_pos h3]
  rw[if_neg ae];exact⟨by simp only;omega,pD n1 c1 ae ae,pD J (Int.dvd_sub c1 b3) (by simp only;omega) (by simp only;omega)⟩
 ·simp only[if_neg h3]
  by_cases h4:D+p<P.low
  ·rw[if_pos h4]
   exact⟨by simp only;omega,pD n1 c2 ae ae,pD J (Int.dvd_sub c2 b3) (by simp only;omega) (by simp only;omega)⟩
  ·rw[if_neg h4]
   exact⟨by simp only;omega,pD n1 (Int.dvd_add hf.1 b3) (by simp only;omega) (by simp only;omega),pD J hf.1 hf.2.1 hf.2.2⟩
theorem FO {d:Int} (D:∀f∈fl,f.inst=j->f.ag=p) (I:∃f∈fl,f.inst=j):jq fl d j=p:=by
 unfold jq
 cases hf:fl.find? fun f=>f.inst==j with
 |none=>
  obtain⟨f,a,b⟩:=I;have:=DZ.1 hf f a;simp[b] at this
 |some f=>
  have J:=MV hf;exact D f (uP hf) (by simpa using J)
theorem zA {d:Int} (h:∀f∈fl,f.inst≠j):jq fl d j=d:=by
 unfold jq
 cases hf:fl.find? fun f=>f.inst==j with
 |none=>rfl
 |some f=>
  have D:=MV hf;exact absurd (by simpa using D) (h f (uP hf))
theorem jT (O:P.gZ) {r:ir} (hx:r.inst=(x:Int)) (hc:x<P.count) (hk:r.kind=3) (hs:r.side=1\/r.side=2) (D:zL P r)
  (hp:P.n<=x->(fg P x st).1 - (fg P x st).2=r.ag/\P.fy (cy P.n x).1 (fg P x st).1=0/\P.fy (cy P.n x).2 (fg P x st).2=0):jf P (lz P st r):=by
 unfold lz;have e:r.inst.toNat=x:=ae;rw[e]
 split
 ·exact .one r [] D (.inr ae) .nil
 ·rename_i hn
  obtain⟨h1,h2,h3⟩:=hp ae;have ax:=O.cnt;have I:=O.ag h2;have J:=O.ag h3;obtain⟨l1,l2,_⟩:=O.RG (x:=x) ae hc;unfold nW;refine .three r _ _ [] D ⟨⟨_,by rw[e],ae⟩,⟨e▸I.1,e▸I.2.1⟩,D.aw,D.left⟩ ⟨⟨_,by rw[e],ae⟩,⟨e▸J.1,e▸J.2.1⟩,D.aw,D.left⟩ ⟨hk,hk,rfl,rfl,rfl,rfl,rfl,?_,rfl,rfl,rfl,rfl,h1,?_,?_,?_,?_⟩ .nil
  ·show 3 - r.side≠r.side;omega
  ·rw[e];exact h2
  ·rw[e];exact h3
  ·rw[e];omega
  ·rw[e];omega
structure FP (f:fG):Prop where
 aw:0≤f.aw∧f.aw≤1000000
 left:0≤f.left∧f.left≤1000000
theorem JV:∀{es:List dn} {cs:List Int} {f:fG},(∀(m:Nat) (e:dn),es[m]?=some e->∃c,cs[m]?=some c/\0<=c/\c<=e.aw/\e.aw<=1000000)->f∈dC x k p es cs->FP f
 |[],cs,f,_,h=>by cases cs<;>simp[dC] at h
 |e::es,[],f,_,h=>by simp[dC] at h
 |e::es,c::cs,f,hc,h=>by
  have I:f∈dC x k p es cs->FP f:=JV fun m e' D=>hc (m+1) e' D;unfold dC at h
  split at h
  ·rcases a9.1 h with rfl|h
   ·obtain⟨c',J,O,h3,h4⟩:=hc 0 e rfl
    obtain rfl:c=c':=bW J;exact⟨⟨O,by show c<=1000000;omega⟩,by show 0<=e.aw - c;omega,by show e.aw - c<=1000000;omega⟩
   ·exact I h
  ·exact I h
theorem C7 (hS:pn P S) {a:Int} (ht:lU S x k=some (p,a)) (h1:1<=t) (h2:t<=a):
  x<P.count/\P.fy x p=0/\(∃f∈(bM P S x k t).2,True)/\∀f∈(bM P S x k t).2,f.inst=x/\f.k=k/\f.ag=p/\At S x k p f.id/\FP f:=by
 obtain⟨M,r,l,a1,I,a3,a4⟩:=oE ht;have hx:x<P.count:=by rw[<-hS.sn];exact(az.1 a1).1
 have hr:r∈M.side k:=by rw[I];simp
 have J:=(uH hS.right (hS.xX x M a1) a1 I h1 ae).1;refine⟨hx,a3▸hS.pr x k M r a1 hr,?_,fun f hf=>?_⟩
 ·obtain⟨f,m,hf⟩:=QE J
  exact⟨f,by rw[hf];simp,trivial⟩
 ·obtain⟨b1,b2,_,M',r',l',b3,b4,b5,e,b6,b7,_⟩:=sR hf
  rw[a1] at b3;injection b3 with b3;subst b3;rw[I] at b4;injection b4 with b4 _;subst b4;have O:=yL hS.right (hS.xX x M a1) hr (q:=t) ae ae;have ax:FP f:=by
   refine JV (x:=x) (k:=k) (p:=r.1) (es:=r.2) (cs:=mA P k r t) (fun m e' D=>?_) ?_
   ·obtain⟨c,c1,c2,c3⟩:=O.2 m e' D
    have:=(hS.xX x M a1).ok e' (fX hr (aH D));exact⟨c,c1,c2,c3,this.2.1⟩
   ·unfold bM at hf
    rw[a1] at hf;simp only[I] at hf;exact hf
  exact⟨b1,b2,b5.trans a3,⟨M,r,e,a1,hr,a3,b6,b7.symm⟩,ax⟩
theorem UY {D k':Nat} (h:D≠x):lU (bM P S x k t).1 D k'=lU S D k':=by
 unfold lU;rw[yN h]
structure UZ (P:PD) (S:Sm) (x k:Nat) (p t:Int) (q:Qt) (fl:List fG):Prop where
 i0:q.i0<P.count
 i1:q.i1<P.count
 mem:∀f∈fl,(f.inst=q.i0∧f.k=q.k0∧At S q.i0 q.k0 f.ag f.id)∨(f.inst=q.i1∧f.k=q.k1∧At S q.i1 q.k1 f.ag f.id)
 fb:∀f∈fl,FP f
 p:∃p0 p1,P.fy q.i0 p0=0∧P.fy q.i1 p1=0∧(∀f∈fl,f.inst=q.i0→f.ag=p0)∧(∀f∈fl,f.inst=q.i1→f.ag=p1)∧(∃f∈fl,f.inst=q.i0)∧(∃f∈fl,f.inst=q.i1)∧
  ((x<P.n∧q.i0=fv P.n x q.i1∧x<q.i1∧q.i1<P.n∧p=p0+p1)∨(x<P.n∧q.i0=fv P.n q.i1 x∧q.i1<x∧p=p1 - p0)∨(P.n≤x∧q.i0=(cy P.n x).1∧q.i1=(cy P.n x).2∧p=p0 - p1))
theorem Mt (hS:pn P S) (hx:x<P.count) (hk:k<2) {q:Qt} (hq:q∈mG P.n (lU S) x k) (h1:1<=t) (h2:t<=q.aw):UZ P S x k q.ag t q (dA P S x k (some q) t).2:=by
 obtain⟨J,a0,a2,p0,q0,p1,q1,t0,t1,a5,O⟩:=hS.right.quote hx hk hq;have D:=C7 hS t0 h1 ae;have ax:lU (bM P S q.i0 q.k0 t).1 q.i1 q.k1=some (p1,q1):=by rw[UY (fun e=>J e.symm)];exact t1
 have ay:=hS.less (iy.nr P S q.i0 q.k0 t);have I:=C7 ay ax h1 ae;have hm:∀f∈(dA P S x k (some q) t).2,f∈(bM P S q.i0 q.k0 t).2\/f∈(bM P (bM P S q.i0 q.k0 t).1 q.i1 q.k1 t).2:=fun f hf=>aJ.1 hf;refine⟨D.1,I.1,fun f hf=>?_,fun f hf=>?_,p0,p1,D.2.1,I.2.1,fun f hf hi=>?_,fun f hf hi=>?_,?_,?_,?_⟩
 ·rcases hm f hf with h|h
  ·obtain⟨a,b,c,d,_⟩:=D.2.2.2 f h
   exact .inl ⟨a,b,c▸d⟩
  ·obtain⟨a,b,c,d,_⟩:=I.2.2.2 f h
   exact .inr ⟨a,b,c▸(iy.nr P S q.i0 q.k0 t).at_ d⟩
 ·rcases hm f hf with h|h
  ·exact(D.2.2.2 f h).2.2.2.2
  ·exact(I.2.2.2 f h).2.2.2.2
 ·rcases hm f hf with h|h
  ·exact(D.2.2.2 f h).2.2.1
  ·exact absurd (hi.symm.trans (I.2.2.2 f h).1) J
 ·rcases hm f hf with h|h
  ·exact absurd ((D.2.2.2 f h).1.symm.trans hi) J
  ·exact(I.2.2.2 f h).2.2.1
 ·obtain⟨f,hf,_⟩:=D.2.2.1
  exact⟨f,aJ.2 (.inl hf),(D.2.2.2 f hf).1⟩
 ·obtain⟨f,hf,_⟩:=I.2.2.1
  exact⟨f,aJ.2 (.inr hf),(I.2.2.2 f hf).1⟩
 ·rcases O with⟨a,b,c,d,_,_,e⟩|⟨a,b,c,_,_,d⟩|⟨a,b,c,_,_,d⟩
  ·exact .inl ⟨a,b,c,d,e⟩
  ·exact .inr (.inl ⟨a,b,c,d⟩)
  ·exact .inr (.inr ⟨a,b,c,d⟩)
theorem Qc (hk:k<2) (hx:x<P.count) {q':Int} (h:Mp P S x k ag S' q' p q im st) (id left:Int) (hl:0<=left/\left<=1000000) (bb:0<=st.aw/\st.aw<=1000000):jf P (nH P id x k st left):=by
 have J:=h.fine.right;have I:∀j:Nat,j<2->(j:Int)+1=1\/(j:Int)+1=2:=fun j hj=>ae;have bh:1<=q:=h.fine.sb.next h.next
 have a0:=h.st;have hn:=h.next
 have bp:=h.q1;have ay:st.imp=im.isSome:=by rw[a0]
 have ep:st.ag=p:=by rw[a0]
 have ef:st.U=(dA P S' x (1 - k) im (min q' q)).2:=by rw[a0]
 have a2:∀f,f.inst<P.count->P.fy f.inst f.ag=0->FP f->zL P (oC f):=fun f h1 h2 h3=>by
  have h4:=J.ag h2;exact⟨⟨f.inst,rfl,h1⟩,⟨h4.1,h4.2.1⟩,h3.aw,h3.left⟩
 have ax:P.fy x p=0->zL P ⟨3,id,x,(k:Int)+1,st.ag,st.aw,left,0⟩:=fun h2=>by
  have h4:=J.ag h2;exact⟨⟨x,rfl,hx⟩,⟨by show -2000000<=st.ag;rw[ep];exact h4.1,by show st.ag<=2000000;rw[ep];exact h4.2.1⟩,bb,hl⟩
 unfold nH
 cases im with
 |none=>
  have bc:=Qa hn;have A:=C7 h.fine bc (t:=min q' q) ae ae;have ba:P.n<=x->(fg P x st).1 - (fg P x st).2=p/\P.fy (cy P.n x).1 (fg P x st).1=0/\P.fy (cy P.n x).2 (fg P x st).2=0:=fun D=>by
   have e:fg P x st=lu P x p:=by unfold fg;rw[ay,ep];rfl
   rw[e];exact S9 J D hx A.2.1
  refine jf.app (jf.flat fun f hf=>?_) (jT J (x:=x) rfl hx rfl (I k hk) (ax A.2.1) (fun D=>by rw[show(⟨3,id,x,(k:Int)+1,st.ag,st.aw,left,0⟩:ir).ag=p from ep];exact ba D));rw[ef] at hf;obtain⟨a,b,c,d,bf⟩:=A.2.2.2 f hf;exact jT J (x:=x) (by show(f.inst:Int)=x;rw[a]) hx rfl (by show(f.k:Int)+1=1\/(f.k:Int)+1=2;rw[b];omega) (a2 f (a▸hx) (a▸c▸A.2.1) bf) (fun D=>by rw[show(oC f).ag=p from c];exact ba D)
 |some y=>
  obtain⟨y1,y2,y3,y4,y5,y6⟩:=NQ (k:=1 - k) ae hn y rfl;have F:=Mt h.fine hx (k:=1 - k) ae y1 (t:=min q' q) ae ae;rw[<-ef] at F;obtain⟨p0,p1,w0,w1,f0,f1,g0,g1,a5⟩:=F.p;have O:∀f∈st.U,f.k<2:=fun f hf=>by
   rcases F.mem f hf with⟨_,b,_⟩|⟨_,b,_⟩<;>omega
  have a6:∀z,fg P z st=(jq st.U st.ag (cy P.n z).1,jq st.U st.ag (cy P.n z).2):=fun z=>by unfold fg;rw[ay];rfl
  have a7:∀f∈st.U,f.inst=y.i0->zL P (oC f):=fun f hf a=>a2 f (a▸F.i0) (by rw[a,f0 f hf a];exact w0) (F.fb f hf);have a8:∀f∈st.U,f.inst=y.i1->zL P (oC f):=fun f hf a=>a2 f (a▸F.i1) (by rw[a,f1 f hf a];exact w1) (F.fb f hf);have m0:jq st.U st.ag y.i0=p0:=FO f0 g0;have m1:jq st.U st.ag y.i1=p1:=FO f1 g1;rcases a5 with⟨c1,c2,c3,c4,c5⟩|⟨c1,c2,c3,c5⟩|⟨c1,c2,c3,c5⟩
  ·
   obtain⟨s1,s2,s3⟩:=J.spread c3 c4;have mx:jq st.U st.ag x=st.ag:=zA fun f hf=>by
    rcases F.mem f hf with⟨a,_⟩|⟨a,_⟩<;>omega
   refine jf.app (jf.flat fun f hf=>?_) (jT J (x:=x) rfl hx rfl (I k hk) (ax (y5▸y4)) (fun D=>ae));rcases F.mem f hf with⟨a,b,_⟩|⟨a,b,_⟩
   ·refine jT J (x:=y.i0) (by show(f.inst:Int)=_;rw[a]) F.i0 rfl (I _ (O f hf)) (a7 f hf a) (fun D=>?_)
    rw[a6,c2,s3];simp only;rw[mx,m1,show(oC f).ag=p0 from f0 f hf a,ep];exact⟨ae,y5▸y4,w1⟩
   ·exact jT J (x:=y.i1) (by show(f.inst:Int)=_;rw[a]) F.i1 rfl (I _ (O f hf)) (a8 f hf a) (fun D=>ae)
  ·obtain⟨s1,s2,s3⟩:=J.spread c3 c1
   have mx:jq st.U st.ag x=st.ag:=zA fun f hf=>by
    rcases F.mem f hf with⟨a,_⟩|⟨a,_⟩<;>omega
   refine jf.app (jf.flat fun f hf=>?_) (jT J (x:=x) rfl hx rfl (I k hk) (ax (y5▸y4)) (fun D=>ae));rcases F.mem f hf with⟨a,b,_⟩|⟨a,b,_⟩
   ·refine jT J (x:=y.i0) (by show(f.inst:Int)=_;rw[a]) F.i0 rfl (I _ (O f hf)) (a7 f hf a) (fun D=>?_)
    rw[a6,c2,s3];simp only;rw[mx,m1,show(oC f).ag=p0 from f0 f hf a,ep];exact⟨ae,w1,y5▸y4⟩
   ·exact jT J (x:=y.i1) (by show(f.inst:Int)=_;rw[a]) F.i1 rfl (I _ (O f hf)) (a8 f hf a) (fun D=>ae)
  ·obtain⟨l1,l2,_⟩:=J.RG c1 hx
   refine jf.app (jf.flat fun f hf=>?_) (jT J (x:=x) rfl hx rfl (I k hk) (ax (y5▸y4)) (fun D=>?_))
   ·rcases F.mem f hf with⟨a,b,_⟩|⟨a,b,_⟩
    ·exact jT J (x:=y.i0) (by show(f.inst:Int)=_;rw[a]) F.i0 rfl (I _ (O f hf)) (a7 f hf a) (fun D=>ae)
    ·exact jT J (x:=y.i1) (by show(f.inst:Int)=_;rw[a]) F.i1 rfl (I _ (O f hf)) (a8 f hf a) (fun D=>ae)
   ·rw[a6,<-c2,<-c3,m0,m1]
    simp only;exact⟨by rw[ep];omega,w0,w1⟩
theorem JW (x k:Nat) (ag:Int):∀(f:Nat) (S:Sm) (aw:Int),SB 1000000 S->∀st∈(dV P f S x k ag aw).2.1,0<=st.aw/\st.aw<=aw
 |0,S,aw,_,st,h=>by simp[dV] at h
 |f+1,S,aw,hS,st,h=>by
  unfold dV at h
  split at h
  ·simp at h
  ·rename_i hq
   split at h
   ·simp at h
   ·rename_i p q im hn
    have D:=hS.next hn
    split at h
    ·rcases a9.1 h with rfl|h
     ·exact⟨by show 0<=min aw q;omega,by show min aw q<=aw;omega⟩
     ·have:=JW x k ag f _ _ (hS.nT _ _ _ _) st h
      omega
    ·simp at h
theorem JX {P:PD} (x k:Nat) (ag:Int):∀(f:Nat) (S:Sm) (aw:Int),SB 1000000 S->0<=aw->((dV P f S x k ag aw).2.1.map (·.aw)).sum<=aw
 |0,S,aw,_,h=>by simp[dV];exact h
 |f+1,S,aw,hS,h=>by
  unfold dV
  split
  ·simpa using h
  ·split
   ·simpa using h
   ·rename_i p q im hn
    have D:=hS.next hn
    split
    ·have I:=JX (P:=P) x k ag f (dA P S x (1 - k) im (min aw q)).1 (aw - min aw q) (hS.nT _ _ _ _) ae
     simp only[aW,cN];omega
    ·simpa using h
theorem Db (I:k<2) (hx:x<P.count) (id:Int):∀(l:List jz) (left:Int),(∀st∈l,∃S' q' p q im,Mp P S x k ag S' q' p q im st)->(∀st∈l,0<=st.aw/\st.aw<=1000000)->(l.map (·.aw)).sum<=left->left<=1000000->jf P (kj P id x k l left)
 |[],left,_,_,_,_=> .nil
 |st::l,left,h,hq,hs,hl=>by
  obtain⟨S',q',p,q,im,D⟩:=h st bT;have J:=hq st bT;have h2:0<=(l.map (·.aw)).sum:=by
   have:∀m:List jz,(∀s∈m,0<=s.aw)->0<=(m.map (·.aw)).sum:=fun m=>by
    induction m with
    |nil=>intro _;simp
    |cons a m O=>intro hm;have:=hm a bT;have:=O fun s hs=>hm s (by simp[hs]);simp only[aW,cN];omega
   exact this l fun s hs=>(hq s (by simp[hs])).1
  simp only[aW,cN] at hs;unfold kj;exact(Qc I hx D id _ ae J).app (Db I hx id l _ (fun s hs=>h s (by simp[hs])) (fun s hs=>hq s (by simp[hs])) ae ae)
theorem Dc (hS:pn P m.S) (id:Int) (hk:k<2) (hx:x<P.count) (ag aw time:Int) (hw:P.fy x ag=0) (hq:0<=aw/\aw<=1000000):jf P (iE P m id x k ag aw time).2:=by
 have D:=hS.right.ag hw;have hs:=Db (S:=m.S) hk hx (ag:=ag) id (dV P aw.toNat m.S x k ag aw).2.1 aw (CW x k ag _ _ _ hS) (fun st J=>cA (JW x k ag _ _ _ hS.sb st J)) (JX x k ag _ _ _ hS.sb hq.1) hq.2;have O:jf P ((⟨1,id,x,(k:Int)+1,ag,aw,aw,0⟩:ir)::kj P id x k (dV P aw.toNat m.S x k ag aw).2.1 aw):= .one _ _ ⟨⟨x,rfl,hx⟩,⟨D.1,D.2.1⟩,hq,hq⟩ (.inl (by show(1:Int)≠3;omega)) hs;have I:=CZ (P:=P) x k ag aw.toNat m.S aw hS.sb hq.1;unfold iE;simp only
 split
 ·exact O
 ·split
  ·exact O
  ·exact O.app (.one _ [] ⟨⟨x,rfl,hx⟩,⟨D.1,D.2.1⟩,⟨I.1,by show(dV P aw.toNat m.S x k ag aw).2.2<=1000000;omega⟩,⟨cM _,by show(0:Int)<=1000000;omega⟩⟩ (.inl (by show(4:Int)≠3;omega)) .nil)
theorem nu (D:P.gZ) (id fy:Int):jf P (mH id fy):= .one _ [] ⟨⟨0,rfl,cA D.cnt⟩,⟨by show(-2000000:Int)<=0;omega,by show(0:Int)<=2000000;omega⟩,⟨cM _,by show(0:Int)<=1000000;omega⟩,⟨cM _,by show(0:Int)<=1000000;omega⟩⟩ (.inl (by show(2:Int)≠3;omega)) .nil
theorem U0 {x:Int} (h:P.oY x p=0):0<=x/\x.toNat<P.count/\P.fy x.toNat p=0:=by
 unfold PD.oY at h
 split at h
 ·cases h
 ·exact⟨ae,ae,h⟩
theorem U3 (hS:pn P m.S) (c:bN):jf P (pC P m c).2:=by
 unfold pC
 split
 ·exact nu hS.right _ _
 ·rename_i hr
  have hr:dx c=0:=by simpa using hr
  split
  ·rename_i D
   have J:=CY hr D;have a7:=J.side;unfold lW;simp only
   generalize(if c.time=3 then c.aw else c.least)=a8
   split
   ·exact nu hS.right _ _
   ·rename_i hw
    obtain⟨_,b,hw'⟩:=U0 (by simpa using hw)
    split
    ·exact nu hS.right _ _
    ·split
     ·exact nu hS.right _ _
     ·split
      ·exact nu hS.right _ _
      ·split
       ·exact nu hS.right _ _
       ·exact Dc hS _ ae b _ _ _ hw' (jE J.q1 J.q2)
  ·rename_i D
   split
   ·exact nu hS.right _ _
   ·rename_i x k p e hf
    obtain⟨M,hM,hk,r,O,h3,h4,h5⟩:=sJ hf;have hx:x<P.count:=by rw[<-hS.sn];exact(az.1 hM).1
    have heq:=(hS.xX x M hM).ok e (fX O h4);have he:1<=e.aw:=heq.1;have a0:P.fy x p=0:=h3▸hS.pr x k M r hM O;have I:=hS.right.ag a0;have ax:jf P (dG m c.id x k p e).2:= .one _ [] ⟨⟨x,rfl,hx⟩,⟨I.1,I.2.1⟩,⟨by show 0<=e.aw;omega,heq.2.1⟩,⟨cM _,by show(0:Int)<=1000000;omega⟩⟩ (.inl (by show(4:Int)≠3;omega)) .nil;have ay:∀q,0<=q->q<=e.aw->jf P (jh m c.id q x k p e).2:=fun q a2 ba=> .one _ [] ⟨⟨x,rfl,hx⟩,⟨I.1,I.2.1⟩,⟨a2,by show q<=1000000;omega⟩,⟨by show 0<=e.aw - q;omega,by show e.aw - q<=1000000;omega⟩⟩ (.inl (by show(5:Int)≠3;omega)) .nil
    split
    ·rename_i a5
     have hq:=sS hr D ae;unfold replaceM;simp only
     split
     ·exact nu hS.right _ _
     ·rename_i a6
      split
      ·rename_i bb
       exact ay _ ae ae
      ·split
       ·exact nu hS.right _ _
       ·exact ax.app (Dc (hS.less (iy.cutAt m.S x c.id e.aw ae)) _ hk hx _ _ _ (by simpa using a6) ae)
    ·split
     ·exact ax
     ·rename_i a5 bc
      have hq:=sS hr D ae;exact ay _ ae ae
theorem FQ {P:PD} (x k:Nat) (ag:Int):∀(f:Nat) (S:Sm) (aw:Int),SB 1000000 S->(0<=aw->0<=(dV P f S x k ag aw).2.2)/\(dV P f S x k ag aw).2.2<=aw
 |0,S,aw,_=>⟨fun h=>h,cM _⟩
 |f+1,S,aw,hS=>by
  unfold dV
  split
  ·exact⟨fun h=>h,cM _⟩
  ·split
   ·exact⟨fun h=>h,cM _⟩
   ·rename_i p q im hn
    split
    ·have I:=hS.next hn
     have D:=FQ (P:=P) x k ag f (dA P S x (1 - k) im (min aw q)).1 (aw - min aw q) (hS.nT _ _ _ _);exact⟨fun h=>D.1 ae,by have:=D.2;simp only at this⊢;omega⟩
    ·exact⟨fun h=>h,cM _⟩
structure vz (P:PD) (S:Sm) (c:bN) (S':Sm):Prop where
 ex:∃S1,iy S1 S∧(S'=S1∨(cK S1<250∧¬fI S1 c.id∧∃x k p q,k<2∧x<P.count∧P.fy x p=0∧1≤q∧q≤c.aw∧S'=oW S1 x k c.id p q))
theorem pn.gone (h:pn P S) (D:S[x]?=some M) (he:e∈M.I):¬fI (cutAt S x e.id e.aw) e.id/\cK (cutAt S x e.id e.aw)+1=cK S:=by
 have hb:=h.xX x M D;rw[nS D];constructor
 ·rintro⟨y,N,e',J,O,h3⟩
  rcases nX J with⟨rfl,rfl⟩|⟨ax,J⟩
  ·rw[iI] at O
   exact yJ hb.nd he rfl (cM _) e' O h3
  ·exact ax (h.uq _ _ _ _ _ _ J O D he h3)
 ·have h4:=lB D (M.cut e.id e.aw)
  have h5:=Ae hb.nd he rfl (cM e.aw);rw[<-iI] at h5;omega
theorem zB (hF:pn P m.S) (c:bN) (I:id=c.id) (O:k<2) (hx:x<P.count) (hw:P.fy x ag=0) (hq:1<=aw) (ax:aw<=c.aw) (hc:cK m.S<250) (hs:¬fI m.S id):
  vz P m.S c (iE P m id x k ag aw time).1.S:=by
 have J:=iy.run P x k ag aw.toNat m.S aw;have D:=FQ (P:=P) x k ag aw.toNat m.S aw hF.sb;have h0:=D.1 ae;have h1:=D.2;have ay:=J.cnt;refine⟨⟨(dV P aw.toNat m.S x k ag aw).1,J,?_⟩⟩;unfold iE;simp only
 split
 ·exact .inl rfl
 ·split
  ·refine .inr ⟨ae,fun hh=>hs (I▸J.stands hh),x,k,ag,(dV P aw.toNat m.S x k ag aw).2.2,O,hx,hw,ae,ae,by rw[I]⟩
  ·exact .inl rfl
theorem vz.same:vz P S c S:=⟨⟨S,iy.refl S, .inl rfl⟩⟩
theorem vz.less (h:iy S' S):vz P S c S':=⟨⟨S',h, .inl rfl⟩⟩
theorem Ta (hF:pn P S) (h:sX S id=some (x,k,p,e)):x<P.count/\k<2/\e.id=id/\1<=e.aw/\e.aw<=1000000/\P.fy x p=0/\At S x k p id/\∃M,S[x]?=some M/\e∈M.I:=by
 obtain⟨M,D,hk,r,hr,O,J,h5⟩:=sJ h;have hx:x<P.count:=by rw[<-hF.sn];exact(az.1 D).1
 have he:=(hF.xX x M D).ok e (fX hr J);exact⟨hx,hk,h5,he.1,he.2.1,O▸hF.pr x k M r D hr,⟨M,r,e,D,hr,O,J,h5⟩,M,D,fX hr J⟩
theorem U4 {x:Int} (h:P.oY x p=0):0<=x/\x.toNat<P.count/\P.fy x.toNat p=0:=by
 unfold PD.oY at h
 split at h
 ·cases h
 ·exact⟨ae,ae,h⟩
theorem Tb (hF:pn P m.S) (su:∀id,fI m.S id->m.used id=true) (c:bN):vz P m.S c (pC P m c).1.S:=by
 unfold pC
 split
 ·exact .same
 ·rename_i hr
  have hr:dx c=0:=by simpa using hr
  split
  ·rename_i D
   have hn:=CY hr D;have ay:=hn.side;unfold lW;simp only
   generalize(if c.time=3 then c.aw else c.least)=a0
   split
   ·exact .same
   ·rename_i hw
    obtain⟨w1,w2,w3⟩:=U4 (by simpa using hw)
    split
    ·exact .same
    ·rename_i hu
     split
     ·exact .same
     ·split
      ·exact .same
      ·split
       ·exact .same
       ·exact zB hF c rfl ae w2 w3 hn.q1 (cM _) ae (fun hs=>hu (su _ hs))
  ·rename_i D
   split
   ·exact .same
   ·rename_i x k p e hf
    obtain⟨hx,hk,I,a5,a6,hw,ha,M,hM,J⟩:=Ta hF hf;have hcut:iy (cutAt m.S x c.id e.aw) m.S:=iy.cutAt m.S x c.id e.aw ae
    split
    ·rename_i O
     have hq:=sS hr D ae;unfold replaceM;simp only
     split
     ·exact .same
     ·rename_i ax
      split
      ·rename_i a7
       exact .less (iy.cutAt _ _ _ _ ae)
      ·split
       ·exact .same
       ·have hg:=hF.gone hM J
        rw[I] at hg;have a8:=hF.cnt;obtain⟨S1,a1,a2⟩:=(zB (m:=(dG m c.id x k p e).1) (hF.less hcut) c rfl hk hx (time:=1) (by simpa using ax) hq.1 (cM _) (by show cK (cutAt m.S x c.id e.aw)<250;omega) hg.1).ex;exact⟨⟨S1,a1.trans hcut,a2⟩⟩
    ·rename_i O
     split
     ·exact .less hcut
     ·rename_i ba
      have hq:=sS hr D ae;exact .less (iy.cutAt _ _ _ _ ae)
theorem aa9:cK (oW S x k id p q)<=cK S+1:=by
 unfold oW
 split
 ·rename_i M D
  have:=lB D (M.add k id p q);have:=Uv M k id p q;omega
 ·omega
theorem vz.count (h:vz P S c S'):cK S'<=cK S+1:=by
 obtain⟨S1,a1,D⟩:=h.ex;have:=a1.cnt;rcases D with rfl|⟨_,_,x,k,p,q,_,_,_,_,_,rfl⟩
 ·omega
 ·have:=aa9 (S:=S1) (x:=x) (k:=k) (id:=c.id) (p:=p) (q:=q)
  omega
theorem aau {y:Int} (h:(iE P m id x k ag aw time).1.used y=true):y=id\/m.used y=true:=by
 unfold iE at h;simp only at h;have key:(if y=id then true else m.used y)=true->y=id\/m.used y=true:=fun h=>by
  split at h
  ·exact .inl ‹_›
  ·exact .inr h
 repeat' split at h
 all_goals exact key h
theorem abB {y:Int} (h:(pC P m c).1.used y=true):y=c.id\/m.used y=true:=by
 unfold pC at h
 split at h
 ·exact .inr h
 ·split at h
  ·unfold lW at h
   simp only at h
   repeat' split at h
   all_goals first
    |exact .inr h
    |exact aau h
  ·split at h
   ·exact .inr h
   ·split at h
    ·unfold replaceM at h
     simp only at h
     repeat' split at h
     all_goals first
      |exact .inr h
      |exact aau (m:=(dG m c.id _ _ _ _).1) h
    ·split at h
     ·exact .inr h
     ·exact .inr h
theorem Mx {x s pr le:Int} (h1:1<=id/\id<=1099511627776) (h2:0<=x/\x<=255) (h3:s=1\/s=2) (I:jg pr) (J:1<=q/\q<=1000000) (h6:0<=le/\le<=q) (h7:1<=t/\t<=3) (O:ky=[]\/Cd ky=true):dx ⟨1,id,x,s,pr,q,le,t,ky⟩=0:=by
 have D:kL q:=J;unfold dx wN;simp only;rw[if_neg ae,if_neg ae,if_pos trivial,if_neg ae,if_neg ae,if_neg (fun e=>e D),if_neg ae,if_neg (fun e=>by rcases O with h|h;exact e.1 h;rw[h] at e;exact absurd e.2 bT),if_neg (fun e=>e I),if_neg ae]
theorem My {kd x s pr le:Int} (O:2<=kd/\kd<=4) (h1:1<=id/\id<=1099511627776) (I:jg pr) (J:1<=q/\q<=1000000):dx ⟨kd,id,x,s,pr,q,le,t,ky⟩=0:=by
 have D:kL q:=J;unfold dx;simp only;rw[if_neg ae,if_neg ae,if_neg ae,if_neg (fun e=>e.2 D),if_neg (fun e=>e.2 I)]
inductive Mz (P:PD) (i:Nat):bN→Prop
 |new (x s a q le t:Int):0≤x→x<P.count→0≤s→s≤1→0≤a→a≤9→1≤q→q≤12→0≤le→le≤q→1≤t→t≤3→Mz P i ⟨1,(i:Int)+1,x,1+s,if x<P.n then P.tick*a+8*P.tick else P.tick*a - 4*P.tick,q,le,t,[]⟩
 |QI (kd id a q:Int):2≤kd→kd≤4→1≤id→id≤31→0≤a→a≤9→1≤q→q≤12→Mz P i ⟨kd,id,0,0,if kd=4 then P.tick*a+5*P.tick else P.tick*a,q,0,0,[]⟩
theorem Tj (I:P.gZ) (c:bN) (i:Nat):Mz P i (rB P c i):=by
 have hc:=I.cnt;have O:=cW c.kind 0 8 ae;have b1:=cW c.id 0 30 ae;have J:=cW c.inst 0 ((P.count:Int) - 1) ae;have b3:=cW c.side 0 1 ae;have b4:=cW c.ag 0 9 ae;have b5:=cW c.aw 0 11 ae;have b6:=cW c.least 0 (1+within c.aw 0 11) ae;unfold rB;simp only
 split
 ·have hle:0<=(if c.least.tmod 4=1 then within c.least 0 (1+within c.aw 0 11) else 0)/\(if c.least.tmod 4=1 then within c.least 0 (1+within c.aw 0 11) else 0)<=1+within c.aw 0 11:=by split<;>omega
  have D:1<=(if c.time.tmod 5=3 then (3:Int) else if c.time.tmod 5=2 then 2 else 1)/\(if c.time.tmod 5=3 then (3:Int) else if c.time.tmod 5=2 then 2 else 1)<=3:=by
   split
   ·omega
   ·split<;>omega
  exact .new _ _ (within c.ag 0 9) _ _ _ J.1 ae b3.1 b3.2 b4.1 b4.2 ae ae hle.1 hle.2 D.1 D.2
 ·exact .QI _ _ (within c.ag 0 9) _ ae ae ae ae b4.1 b4.2 ae ae
theorem J2 {a:Int} (I:1<=t/\t<=1000) (ha:0<=a/\a<=9):0<=t*a/\t*a<=9000:=by
 have D:0<=t*a:=jG ae ae;have J:t*a<=1000*9:=tA ae ae ae ae;exact⟨D,ae⟩
structure wZ (P:PD) (i:Nat) (c:bN):Prop where
 id:1≤c.id∧c.id≤31∨c.kind=1∧c.id=(i:Int)+1
 kd:1≤c.kind∧c.kind≤4
 inst:0≤c.inst∧c.inst<P.count
 side:c.kind=1→c.side=1∨c.side=2
 Y7:c.kind≠1→c.side=0
 ag: -17000≤c.ag∧c.ag≤17000
 aw:1≤c.aw∧c.aw≤12
 least:0≤c.least∧c.least≤c.aw
 time:c.kind=1→1≤c.time∧c.time≤3
 ky:c.ky=[]
theorem U5 (D:P.gZ) (c:bN) (i:Nat):wZ P i (rB P c i):=by
 have ht:1<=P.tick/\P.tick<=1000:=⟨D.BO,D.EH⟩;have hc:=D.cnt;have hT:=Tj D c i
 generalize rB P c i=y at hT
 cases hT with
 |new x s a q le t h1 I h3 h4 J O h7 h8 h9 ax ay a0=>
  have hm:=J2 ht ⟨J,O⟩;refine⟨.inr ⟨rfl,rfl⟩,⟨by show(1:Int)<=1;omega,by show(1:Int)<=4;omega⟩,⟨h1,I⟩,fun _=>by show 1+s=1\/1+s=2;omega,fun h=>absurd rfl h,?_,⟨h7,h8⟩,⟨h9,ax⟩,fun _=>⟨ay,a0⟩,rfl⟩;show -17000<=(if x<P.n then P.tick*a+8*P.tick else P.tick*a - 4*P.tick)/\(if x<P.n then P.tick*a+8*P.tick else P.tick*a - 4*P.tick)<=17000
  split<;>omega
 |QI kd id a q h1 I h3 h4 J O h7 h8=>
  have hm:=J2 ht ⟨J,O⟩;refine⟨.inl ⟨h3,h4⟩,⟨by show 1<=kd;omega,I⟩,⟨cM _,by show(0:Int)<P.count;omega⟩,fun h=>absurd h (by show kd≠1;omega),fun _=>rfl,?_,⟨h7,h8⟩,⟨cM _,by show(0:Int)<=q;omega⟩,fun h=>absurd h (by show kd≠1;omega),rfl⟩;show -17000<=(if kd=4 then P.tick*a+5*P.tick else P.tick*a)/\(if kd=4 then P.tick*a+5*P.tick else P.tick*a)<=17000
  split<;>omega
theorem wZ.right (h:wZ P i c) (hi:i<=1000) (hP:P.gZ) {side least:Int} (I:1<=id/\id<=1099511627776) (h2:c.kind=1->side=1\/side=2) (J:jg ag) (O:1<=aw/\aw<=1000000) (h5:0<=least/\least<=aw) (h6:ky=[]\/Cd ky=true):
  dx ⟨c.kind,id,c.inst,side,ag,aw,least,c.time,ky⟩=0:=by
 by_cases D:c.kind=1
 ·rw[D]
  have hc:=hP.cnt;have:=h.inst;exact Mx I ae (h2 D) J O h5 (h.time D) h6
 ·have:=h.kd
  exact My ae I J O
theorem wZ.Y8 (h:wZ P i c):1<=c.id/\(c.id<=31\/c.id=(i:Int)+1):=by
 rcases h.id with h|h
 ·exact⟨h.1, .inl h.2⟩
 ·exact⟨ae, .inr h.2⟩
theorem wZ.WY (h:wZ P i c) (hi:i<=1000) (D:P.gZ):dx c=0:=by
 have I:=h.Y8;have:=h.right hi D (id:=c.id) (side:=c.side) (ag:=c.ag) (aw:=c.aw) (least:=c.least) (ky:=c.ky) ae h.side ⟨cA h.ag,cA h.ag⟩ (cA h.aw) h.least (.inl h.ky);exact this
def tq:PD:=gV 2
def Tx:vJ×List sN:=yb tq (vJ.new tq) 0 (oL ⟨1,1,3,2,5,4,0,1,[]⟩)
def Hb:vJ×List sN:=yb tq Tx.1 1 (oL ⟨1,2,1,2,500,6,0,1,[]⟩)
def Hc:vJ×List sN:=yb tq Hb.1 2 (oL ⟨1,3,0,1,505,9,0,1,[]⟩)
theorem Ty:Tx.2.length=1:=by kernel_rfl
theorem Tz:Hb.2.length=1:=by kernel_rfl
theorem J6:Hc.2.length=6:=by kernel_rfl
theorem Qs:Hc.2[5]?=some ⟨2,⟨3,3,0,1,505,4,5,0⟩⟩:=by kernel_rfl
theorem yV:(vJ.new tq).m.un=0/\Tx.1.m.un=1/\Hb.1.m.un=2/\(vJ.new tq).on=0/\Tx.1.on=1/\Hb.1.on=2:=⟨by kernel_rfl,by kernel_rfl,by kernel_rfl,by kernel_rfl,by kernel_rfl,by kernel_rfl⟩
theorem Dt:(gw 0 (oL ⟨1,1,3,2,5,4,0,1,[]⟩)).2=0/\(gw 1 (oL ⟨1,2,1,2,500,6,0,1,[]⟩)).2=0/\(gw 2 (oL ⟨1,3,0,1,505,9,0,1,[]⟩)).2=0:=⟨by kernel_rfl,by kernel_rfl,by kernel_rfl⟩
theorem Hd:(gw 0 (oL ⟨1,1,3,2,5,4,0,1,[]⟩)).1.aw=4/\(gw 1 (oL ⟨1,2,1,2,500,6,0,1,[]⟩)).1.aw=6/\(gw 2 (oL ⟨1,3,0,1,505,9,0,1,[]⟩)).1.aw=9:=⟨by kernel_rfl,by kernel_rfl,by kernel_rfl⟩
theorem J7 (S:Sm):kN tq S=(kK tq S 0 0,kK tq S 0 1)::(kN tq S).tail:=by kernel_rfl
theorem Qu:(kK tq Hb.1.m.S 0 0).lv=[]:=by kernel_rfl
theorem TA:(kK tq Hc.1.m.S 0 0).lv.length=1:=by kernel_rfl
theorem Qv:0<wj (kN tq Hb.1.m.S) (kN tq Hc.1.m.S):=by
 rw[J7 Hb.1.m.S,J7 Hc.1.m.S];unfold wj;rw[List.zip_cons_cons,aW,cN];have h:1<=jR 0 (kK tq Hb.1.m.S 0 0) (kK tq Hc.1.m.S 0 0):=by
  unfold jR;rw[Qu,je,TA];omega
 simp only;omega
theorem aac {r:ir} (h:r'∈lz P st r):r'=r\/(P.n<=r.inst.toNat/\r'.id=r.id/\r'.kind=r.kind/\(r'.inst=((cy P.n r.inst.toNat).1:Int)\/r'.inst=((cy P.n r.inst.toNat).2:Int))):=by
 unfold lz at h
 split at h
 ·simp at h;exact .inl h
 ·rename_i hn
  unfold nW at h;simp at h;rcases h with h|h|h
  ·exact .inl h
  ·rw[h];exact .inr ⟨ae,rfl,rfl, .inl rfl⟩
  ·rw[h];exact .inr ⟨ae,rfl,rfl, .inr rfl⟩
theorem aaM {r:ir} (h:r'∈lz P st r):r'.kind=r.kind:=by
 rcases aac h with rfl|⟨_,_,h,_⟩
 ·rfl
 ·exact h
theorem abM {r:ir} (h:r∈nH P id x k st left):r.kind=3:=by
 unfold nH at h;rcases aJ.1 h with h|h
 ·obtain⟨f,_,h⟩:=dD.1 h
  exact aaM h
 ·exact aaM h
theorem ZQ:∀{l:List jz} {left:Int} {r:ir},r∈kj P id x k l left->r.kind=3
 |[],left,r,h=>by simp[kj] at h
 |st::l,left,r,h=>by
  unfold kj at h;rcases aJ.1 h with h|h
  ·exact abM h
  ·exact ZQ h
end Go.Proofs.YtbaaheidifacaaaGreat
