import Derived.Test.YtbaaheidifacaaaGreatQMktP
set_option linter.defProp false
set_option linter.unusedVariables false
set_option linter.unusedSimpArgs false
set_option maxRecDepth 100000
set_option maxHeartbeats 12800000
namespace Go.Proofs.YtbaaheidifacaaaGreat
variable {F R:List ir} {L:List (Int×Int)} {P:PD} {S:Sm} {es:List dn} {l:List iQ} {m:Mk} {n:Nat} {p ag q aw:Int} {r:iQ}
open Go.RowKit
def acZ (l:List iQ):List (Int×Int×Int):=l.flatMap fun r=>r.2.map fun e=>(r.1,e.id,e.aw)
def acP:List (Int×Int×Int)→Int→List ir
 |[],_=>[]
 |a::l,q=>if q≤0 then [] else ⟨3,a.2.1,0,2,a.1,min a.2.2 q,a.2.2 - min a.2.2 q,0⟩::acP l (q - min a.2.2 q)
def acX (l:List (Int×Int×Int)):Int:=(l.map (·.2.2)).sum
theorem ac8:∀l:List Int,(∀x∈l,0<=x)->0<=l.sum
 |[],_=>cM _
 |a::l,h=>by
  have D:=h a bT;have I:=ac8 l fun x hx=>h x (by simp[hx]);rw[cN];omega
theorem acQ (h:q<=0):∀l,acP l q=[]
 |[]=>rfl
 |a::l=>by unfold acP;rw[if_pos h]
theorem ada:∀(l m:List (Int×Int×Int)) (q:Int),(∀a∈l,1<=a.2.2)->acP (l++m) q=acP l q++acP m (q - acX l)
 |[],m,q,_=>by simp[acP,acX]
 |a::l,m,q,h=>by
  have O:=h a bT;have I:∀x∈l,1<=x.2.2:=fun x hx=>h x (by simp[hx]);have ht:0<=acX l:=by
   unfold acX;refine ac8 _ fun x hx=>?_;obtain⟨y,J,rfl⟩:=aV.1 hx;have:=I y J;omega
  have e:acX (a::l)=a.2.2+acX l:=by simp[acX]
  rw[e,fO]
  by_cases D:q<=0
  ·rw[acQ D,acQ D,acQ ae];rfl
  ·have e1:∀l,acP (a::l) q=⟨3,a.2.1,0,2,a.1,min a.2.2 q,a.2.2 - min a.2.2 q,0⟩::acP l (q - min a.2.2 q):=fun l=>by
    conv=>lhs;unfold acP
    rw[if_neg D]
   rw[e1,e1,ada l m _ I,fO]
   congr 2
   by_cases hq:a.2.2<=q
   ·rw[(ae:min a.2.2 q=a.2.2)];congr 1;omega
   ·rw[acQ (q:=q - min a.2.2 q - acX l) ae,acQ (q:=q - (a.2.2+acX l)) ae]
theorem adb:∀(l:List (Int×Int×Int)) (q q':Int),(∀a∈l,1<=a.2.2)->acX l<=q->acX l<=q'->acP l q=acP l q'
 |[],_,_,_,_,_=>rfl
 |a::l,q,q',h,I,J=>by
  have ha:=h a bT;have D:∀x∈l,1<=x.2.2:=fun x hx=>h x (by simp[hx]);have ht:0<=acX l:=by
   unfold acX;refine ac8 _ fun x hx=>?_;obtain⟨y,O,rfl⟩:=aV.1 hx;have:=D y O;omega
  have e:acX (a::l)=a.2.2+acX l:=by simp[acX]
  rw[e] at I J;unfold acP;rw[if_neg ae,if_neg ae,(ae:min a.2.2 q=a.2.2),(ae:min a.2.2 q'=a.2.2),adb l (q - a.2.2) (q' - a.2.2) D ae ae]
theorem ade {p:Int}:∀(es:List dn) (q:Int),(∀e∈es,1<=e.aw)->0<=q->(dC 0 1 p es (cD (es.map (·.aw)) q)).map oC=acP (es.map fun e=>(p,e.id,e.aw)) q
 |[],q,_,_=>rfl
 |e::es,q,h,hq=>by
  have J:=h e bT;have D:=ade (p:=p) es (q - min e.aw q) (fun x hx=>h x (by simp[hx])) ae;simp only[aW,cD,dC,acP]
  by_cases I:q<=0
  ·rw[if_pos I,if_neg ae,D,acQ ae]
  ·rw[if_neg I,if_pos ae,aW,D]
   rfl
theorem adr:∀(es:List dn) (p:Int) (l:List iQ),es≠[]->((gY ((p,es)::l)).map (·.id)).Nodup->(∀e∈gY ((p,es)::l),1<=e.aw)->(∀r∈l,r.2≠[])->ja ⟨[],(p,es)::l⟩ es (es.map (·.aw))=⟨[],l⟩
 |[],p,l,h,_,_,_=>absurd rfl h
 |e::es,p,l,_,hn,hq,hl=>by
  have h1:=hq e (by simp[gY]);have D:(gY ((p,e::es)::l)).map (·.id)=e.id::((es.map (·.id))++(gY l).map (·.id)):=by simp[gY]
  rw[D] at hn;have I:=yk.1 hn;have keep:∀m:List dn,(∀x∈m,x.id≠e.id)->m.filterMap (fS e.id e.aw)=m:=fun m hm=>zI fun x hx=>by
   unfold fS;rw[if_neg (hm x hx)]
  have O:es.filterMap (fS e.id e.aw)=es:=keep es fun x hx hi=>I.1 (aJ.2 (.inl (aV.2 ⟨x,hx,hi⟩)));have ax:kZ e.id e.aw l=l:=by
   unfold kZ;have e1:l.map (yy e.id e.aw)=l:=by
    conv=>rhs;rw[<-List.map_id l]
    refine cJ fun r hr=>?_;unfold yy;rw[keep r.2 fun x hx hi=>I.1 (aJ.2 (.inr (aV.2 ⟨x,dD.2 ⟨r,hr,hx⟩,hi⟩)))];rfl
   rw[e1];exact List.filter_eq_self.2 fun r hr=>by simpa using hl r hr
  have hcut:(⟨[],(p,e::es)::l⟩:BM).cut e.id e.aw=⟨[],(if es=[] then [] else [(p,es)])++l⟩:=by
   unfold BM.cut
   congr 1
   have e0:yy e.id e.aw (p,e::es)=(p,es):=by
    unfold yy;simp only[dr];rw[show fS e.id e.aw e=none by simp[fS],O]
   have e2:kZ e.id e.aw ((p,e::es)::l)=(if es=[] then [] else [(p,es)])++kZ e.id e.aw l:=by
    unfold kZ;rw[aW,e0,gN]
    by_cases J:es=[]
    ·simp[J]
    ·simp[J]
   rw[e2,ax]
  simp only[aW,ja];rw[if_pos ae,hcut]
  by_cases J:es=[]
  ·subst J
   simp[ja]
  ·rw[if_neg J]
   have ih:=adr es p l J (by simpa[gY] using I.2) (fun x hx=>hq x (by simp[gY] at hx⊢;rcases hx with h|h;exact .inr (.inl h);exact .inr (.inr h))) hl;simpa using ih
structure acR (S:Sm) (l:List iQ):Prop where
 VC:S[0]?=some ⟨[],l⟩
 off:∀(x:Nat) (M:BM),x≠0→S[x]?=some M→M=⟨[],[]⟩
theorem acR.tp (h:acR S l) {x k:Nat} (hx:x≠0):lU S x k=none:=by
 unfold lU
 cases D:S[x]? with
 |none=>rfl
 |some M=>
  rw[h.off x M hx D];simp only;unfold yG BM.side
  by_cases I:k=0<;>simp[I]
theorem acR.WQ (h:acR S l) (hn:0<n) (k:Nat):mG n (lU S) 0 k=[]:=by
 unfold mG;rw[if_pos hn,List.range_zero,List.filterMap_nil,fe];refine List.filterMap_eq_nil_iff.2 fun j D=>?_;have:=List.mem_range'_1.1 D;unfold xe;rw[h.tp (x:=j) ae]
 split<;>simp_all
theorem acR.adP (h:acR S l) (hn:0<P.n):jZ P S 0 0=none:=by
 unfold jZ iq;rw[h.WQ hn];have e:lU S 0 0=none:=by unfold lU;rw[h.VC];rfl
 rw[e];rfl
theorem acR.adQ (h:acR S l) (hn:0<P.n):jZ P S 0 1=match l with|[]=>none|r::_=>some (r.1,mq r.2,none):=by
 unfold jZ iq;rw[h.WQ hn];have e:lU S 0 1=match (motive:=List iQ->Option (Int×Int)) l with|[]=>none|r::_=>some (r.1,mq r.2):=by unfold lU;rw[h.VC];rfl
 rw[e]
 cases l<;>rfl
theorem acR.put {l':List iQ} (h:acR S l):acR (S.set 0 ⟨[],l'⟩) l':=by
 have I:=(az.1 h.VC).1;refine⟨by simp[I],fun x M hx D=>?_⟩;rw[aZ (fun e=>hx e.symm)] at D;exact h.off x M hx D
structure ads (l:List iQ):Prop where
 nd:((gY l).map (·.id)).Nodup
 ok:∀e∈gY l,1≤e.aw∧e.aw≤1000000∧e.id≠500
 ne:∀r∈l,r.2≠[]
 pr:∀r∈l,r.1≤1000
 cnt:∀r∈l,r.2.length≤250
theorem ads.tail (h:ads (r::l)):ads l:=by
 have e:gY (r::l)=r.2++gY l:=by simp[gY]
 refine⟨?_,fun x hx=>h.ok x (e▸aJ.2 (.inr hx)),fun x hx=>h.ne x (by simp[hx]),fun x hx=>h.pr x (by simp[hx]),fun x hx=>h.cnt x (by simp[hx])⟩;have:=h.nd;rw[e,cx] at this;exact(dw.1 this).2.1
theorem adi (h:∀e∈es,1<=e.aw/\e.aw<=1000000) (hn:es.length<=250) (D:0<=q) (I:q<=mq es):yo (es.map (·.aw)) q=cD (es.map (·.aw)) q:=by
 unfold yo;rw[if_pos];refine(iC _ _).2 ⟨by simpa using hn,D,fun n hm=>?_,I⟩;obtain⟨e,he,rfl⟩:=aV.1 hm;exact h e he
theorem adf:∀(l:List Int) (q:Int),(∀x∈l,0<=x)->l.sum<=q->cD l q=l
 |[],q,_,_=>rfl
 |a::l,q,h,hs=>by
  have D:=h a bT;have I:0<=l.sum:=ac8 _ fun x hx=>h x (by simp[hx]);rw[cN] at hs;unfold cD;rw[(ae:min a q=a),adf l (q - a) (fun x hx=>h x (by simp[hx])) ae]
theorem adg (p:Int) (es:List dn):acX (es.map fun e=>(p,e.id,e.aw))=mq es:=by
 unfold acX mq;rw[di];rfl
def acT (r:ir):Bool:=r.id !=500
theorem ady (hP:P.rule=1) (hn:0<P.n) (h:acR S (r::l)) (hA:ads (r::l)) {t:Int} (O:0<=t) (h1:t<=mq r.2) (left:Int) (imp:Bool):
  (nH P 500 0 0 ⟨r.1,t,imp,(bM P S 0 1 t).2⟩ left).filter acT=acP (r.2.map fun e=>(r.1,e.id,e.aw)) t:=by
 have D:∀e∈r.2,e∈gY (r::l):=fun e he=>dD.2 ⟨r,bT,he⟩;have hq:∀e∈r.2,1<=e.aw/\e.aw<=1000000:=fun e he=>⟨(hA.ok e (D e he)).1,(hA.ok e (D e he)).2.1⟩;have hs:mA P 1 r t=cD (r.2.map (·.aw)) t:=by
  unfold mA kg;rw[if_pos hP,Cu,adi hq (hA.cnt r bT) O h1]
 have hf:(bM P S 0 1 t).2=dC 0 1 r.1 r.2 (cD (r.2.map (·.aw)) t):=by
  unfold bM;rw[h.VC];show dC 0 1 r.1 r.2 (mA P 1 r t)=_;rw[hs]
 rw[hf];have e1:=ade (p:=r.1) r.2 t (fun e he=>(hq e he).1) O;have I:∀f∈dC 0 1 r.1 r.2 (cD (r.2.map (·.aw)) t),f.inst=0/\f.id≠500:=fun f hf=>by
  obtain⟨a,_,_,_,e,he,b,_⟩:=CX hf;exact⟨a,b▸(hA.ok e (D e he)).2.2⟩
 unfold nH;rw[Ea];have e2:∀st:jz,(lz P st ⟨3,500,(0:Nat),((0:Nat):Int)+1,r.1,t,left,0⟩).filter acT=[]:=fun st=>by
  unfold lz;rw[if_pos (by simpa using hn)];rfl
 rw[e2,fe,<-e1];have e3:∀(st:jz) (fl:List fG),(∀f∈fl,f.inst=0/\f.id≠500)->(fl.flatMap fun f=>lz P st (oC f)).filter acT=fl.map oC:=fun st fl=>by
  induction fl with
  |nil=>intro _;rfl
  |cons f fl ih=>
   intro J;obtain⟨a,b⟩:=J f bT;rw[bj,Ea,ih fun x hx=>J x (by simp[hx]),aW];have:lz P st (oC f)=[oC f]:=by
    unfold lz;rw[if_pos (by show((f.inst:Int)).toNat<P.n;rw[a];simpa using hn)]
   rw[this];have hk:acT (oC f)=true:=by unfold acT oC;simpa using b
   simp[hk]
 exact e3 _ _ I
theorem adB (I:P.rule=1) (h:acR S (r::l)) (hA:ads (r::l)):(bM P S 0 1 (mq r.2)).1=S.set 0 ⟨[],l⟩:=by
 have D:∀e∈r.2,e∈gY (r::l):=fun e he=>dD.2 ⟨r,bT,he⟩;have hq:∀e∈r.2,1<=e.aw/\e.aw<=1000000:=fun e he=>⟨(hA.ok e (D e he)).1,(hA.ok e (D e he)).2.1⟩;have J:=Gh hq;have hs:mA P 1 r (mq r.2)=r.2.map (·.aw):=by
  unfold mA kg;rw[if_pos I,Cu,adi hq (hA.cnt r bT) ae (cM _)];refine adf _ _ (fun x hx=>?_) (cM _);obtain⟨e,he,rfl⟩:=aV.1 hx;have:=hq e he;omega
 unfold bM;rw[h.VC];show S.set 0 (ja ⟨[],r::l⟩ r.2 (mA P 1 r (mq r.2)))=_;rw[hs];obtain⟨p,es⟩:=r;rw[adr es p l (hA.ne (p,es) bT) hA.nd (fun e he=>(hA.ok e he).1) fun r hr=>hA.ne r (by simp[hr])]
theorem adj (hP:P.rule=1) (hn:0<P.n):∀(f:Nat) (l:List iQ) (S:Sm) (aw:Int),acR S l->ads l->aw.toNat<=f->0<=aw->(kj P 500 0 0 (dV P f S 0 0 1000 aw).2.1 aw).filter acT=acP (acZ l) aw
 |0,l,S,aw,h,hA,hf,h0=>by
  rw[acQ ae];rfl
 |f+1,l,S,aw,h,hA,hf,h0=>by
  unfold dV
  by_cases hq:aw<=0
  ·rw[if_pos hq,acQ hq]
   rfl
  ·rw[if_neg hq]
   have ax:=h.adQ (P:=P) hn
   cases l with
   |nil=>
    rw[show(1 - 0:Nat)=1 from rfl,ax];rfl
   |cons r l=>
    rw[show(1 - 0:Nat)=1 from rfl,ax];have J:lp 0 1000 r.1=true:=by unfold lp;simpa using hA.pr r bT
    simp only[J,if_true];have D:∀e∈r.2,e∈gY (r::l):=fun e he=>dD.2 ⟨r,bT,he⟩;have ay:∀e∈r.2,1<=e.aw/\e.aw<=1000000:=fun e he=>⟨(hA.ok e (D e he)).1,(hA.ok e (D e he)).2.1⟩;have ht:=Gh ay;have hlen:1<=r.2.length:=by
     have:=hA.ne r bT
     cases hr:r.2 with
     |nil=>exact absurd hr this
     |cons a b=>simp
    have O:acZ (r::l)=(r.2.map fun e=>(r.1,e.id,e.aw))++acZ l:=by simp[acZ]
    have I:∀a∈(r.2.map fun e=>(r.1,e.id,e.aw)),1<=a.2.2:=fun a ha=>by
     obtain⟨e,he,rfl⟩:=aV.1 ha;exact(ay e he).1
    unfold kj dA;simp only;rw[Ea,ady hP hn h hA ae ae,O,ada _ _ _ I,adg]
    by_cases hc:mq r.2<=aw
    ·rw[(ae:min aw (mq r.2)=mq r.2),adB hP h hA,adj hP hn f l _ (aw - mq r.2) h.put hA.tail ae ae,adb _ aw (mq r.2) I (by rw[adg];exact hc) (by rw[adg];exact cM _)]
    ·rw[(ae:min aw (mq r.2)=aw),acQ (q:=aw - mq r.2) ae,Int.sub_self]
     cases f<;>(unfold dV;simp[kj])
theorem adz (D:P.rule=1) (hn:0<P.n) (h:acR m.S l) (hA:ads l) (I:0<=aw):
  ∃a L,(iE P m 500 0 0 1000 aw 2).2=a::L/\L.filter acT=acP (acZ l) aw:=by
 have key:=adj D hn aw.toNat l m.S aw h hA (af _) I;unfold iE;simp only
 split
 ·exact⟨_,_,rfl,key⟩
 ·rw[if_neg ae]
  refine⟨_,_,rfl,?_⟩;have e:∀(l:List ir) (r:ir),r.id=500->(l++[r]).filter acT=l.filter acT:=fun l r hr=>by
   rw[Ea];simp[acT,hr]
  exact(e _ _ rfl).trans key
theorem adk (hn:0<P.n) (h:acR S l) (f:Nat) (ag aw:Int):dV P f S 0 1 ag aw=(S,[],aw):=by
 cases f with
 |zero=>rfl
 |succ f=>
  unfold dV
  split
  ·rfl
  ·rw[show(1 - 1:Nat)=0 from rfl,h.adP hn]
theorem adt (hn:0<P.n) (h:acR S l) (ag aw:Int):lV P S 0 1 ag aw=false:=by
 unfold lV;rw[adk hn h,show(1 - 1:Nat)=0 from rfl,h.WQ hn];simp
theorem ac1 {α β:Type} {f g:α->List β}:∀{l:List α},(∀x∈l,f x=g x)->l.flatMap f=l.flatMap g
 |[],_=>rfl
 |a::l,h=>by rw[bj,bj,h a bT,ac1 fun x hx=>h x (by simp[hx])]
theorem adu (hn:0<P.n) (h:acR m.S l) {id:Int} (hq:1<=aw):
  acR (iE P m id 0 1 ag aw 1).1.S (jo 1 l id ag aw)/\(iE P m id 0 1 ag aw 1).1.used=(fun y=>if y=id then true else m.used y):=by
 unfold iE;simp only;rw[adk hn h,if_neg (by simp only;omega)];refine⟨?_,rfl⟩;show acR (oW m.S 0 1 id ag aw) _;unfold oW;rw[h.VC];exact h.put
def qAt (l:List iQ) (p:Int):List (Int×Int):=(l.filter fun r=>r.1==p).flatMap fun r=>r.2.map fun e=>(e.id,e.aw)
abbrev Asc (l:List iQ):Prop:=l.Pairwise (fun a b=>bz 1 a.1 b.1=true)
theorem ac0 (x y:Int):bz 1 x y=true↔x<y:=by unfold bz;simp
theorem adL (l:List iQ) (p:Int):qAt (yx l) p=qAt l p:=by
 unfold qAt yx;rw[List.filter_map,List.flatMap_map];simp[Function.comp_def,Br]
theorem ac3 (h:∀r∈l,r.1≠p):qAt l p=[]:=by
 unfold qAt;rw[List.filter_eq_nil_iff.2 fun r hr=>by simpa using h r hr];rfl
theorem acS (r:iQ) (l:List iQ) (p:Int):qAt (r::l) p=(if r.1=p then r.2.map fun e=>(e.id,e.aw) else [])++qAt l p:=by
 unfold qAt;rw[gN]
 by_cases h:r.1=p
 ·simp[h]
 ·simp[h]
theorem adm {e:dn}:∀{l:List iQ},Asc l->∀x,qAt (mo 1 l p e) x=if x=p then qAt l x++[(e.id,e.aw)] else qAt l x
 |[],_,x=>by
  unfold mo;rw[acS]
  by_cases h:x=p
  ·subst h;simp[qAt]
  ·rw[if_neg h,if_neg (fun e=>h e.symm)];rfl
 |r::l,hl,x=>by
  obtain⟨J,h2⟩:=tz.1 hl;unfold mo
  split
  ·rename_i O
   rw[acS,adm h2 x,acS]
   by_cases h:x=p
   ·rw[if_pos h,if_pos h,bD]
   ·rw[if_neg h,if_neg h]
  ·rename_i O
   split
   ·rename_i hp
    rw[acS,acS]
    by_cases h:x=p
    ·have I:qAt l x=[]:=ac3 fun y D=>cA ((ac0 _ _).1 (J y D))
     rw[if_pos h,I];simp[hp,h]
    ·rw[if_neg h,if_neg (by show ¬r.1=x;omega)]
     rw[if_neg ae]
   ·rename_i hp
    rw[acS]
    by_cases h:x=p
    ·have ax:¬r.1<p:=fun h=>O ((ac0 _ _).2 h)
     have I:qAt (r::l) x=[]:=ac3 fun y D=>by
      rcases a9.1 D with rfl|D
      ·omega
      ·have:=(ac0 _ _).1 (J y D)
       omega
     rw[if_pos h,I];simp[h]
    ·rw[if_neg h,if_neg (by show ¬p=x;omega)]
     rfl
theorem adM (h:Asc l):Asc (yx l):=by
 unfold Asc yx;rw[vF];exact h
theorem adC (h:Asc l) (id p q x:Int):qAt (jo 1 l id p q) x=if x=p then qAt l x++[(id,q)] else qAt l x:=by
 unfold jo
 split
 ·rw[adm (adM h),adL]
 ·rw[adm h]
theorem adn:∀{X:List Int} {l:List iQ},X.Pairwise (· < ·)->Asc l->(∀r∈l,r.1∈X)->acZ l=X.flatMap fun x=>(qAt l x).map fun a=>(x,a.1,a.2)
 |[],[],_,_,_=>rfl
 |[],r::l,_,_,h=>by have:=h r bT;cases this
 |x::X,[],_,_,_=>by simp[acZ,qAt]
 |x::X,r::l,hX,hl,h=>by
  obtain⟨x1,x2⟩:=tz.1 hX;obtain⟨l1,l2⟩:=tz.1 hl;rw[bj]
  by_cases hx:r.1=x
  ·have J:∀y∈l,x<y.1:=fun y D=>cA ((ac0 _ _).1 (l1 y D))
   have hz:qAt l x=[]:=ac3 fun y D=>cA (J y D);have ih:=adn x2 l2 fun y D=>by
    have h3:=J y D;rcases a9.1 (h y (by simp[D])) with I|I
    ·omega
    ·exact I
   have e1:acZ (r::l)=(r.2.map fun e=>(r.1,e.id,e.aw))++acZ l:=by simp[acZ]
   rw[e1,ih,acS,if_pos hx,hz,fe,di]
   congr 1
   ·rw[hx];rfl
   ·refine ac1 fun y D=>?_
    have:=x1 y D;rw[acS,if_neg ae,List.nil_append]
  ·have O:r.1∈X:=by
    rcases a9.1 (h r bT) with I|I
    ·exact absurd I hx
    ·exact I
   have ax:=x1 _ O;have hz:qAt (r::l) x=[]:=ac3 fun y D=>by
    rcases a9.1 D with rfl|D
    ·exact hx
    ·have:=(ac0 _ _).1 (l1 y D);omega
   rw[hz,adn x2 hl fun y D=>?_]
   ·rfl
   ·rcases a9.1 D with rfl|D
    ·exact O
    ·have:=(ac0 _ _).1 (l1 y D)
     rcases a9.1 (h y (by simp[D])) with I|I
     ·omega
     ·exact I
def acU (L:List (Int×Int)) (x:Int) (i:Nat):List (Int×Int×Int):=((L.zipIdx.drop i).filter fun a=>a.1.1==x).map fun a=>(x,(a.2:Int)+1,a.1.2)
def acW (L:List (Int×Int)) (j:Nat):List (Int×Int×Int):=((([0,5,10,15,20,25]:List Int)).drop j).flatMap fun x=>acU L x 0
theorem adG (L:List (Int×Int)) (x:Int):acU L x L.length=[]:=by
 unfold acU;rw[Vj bT];rfl
theorem adl {x:Int} {i:Nat} (h:L[i]?=some (p,q)):acU L x i=(if p=x then [(x,(i:Int)+1,q)] else [])++acU L x (i+1):=by
 have hi:i<L.length:=(az.1 h).1;have e:L[i]=(p,q):=(az.1 h).2;unfold acU;rw[iB (by simpa using hi),gN];simp only[List.getElem_zipIdx,e]
 by_cases hp:p=x
 ·simp[hp]
 ·simp[hp]
theorem adH (L:List (Int×Int)) (x p q:Int):acU (L++[(p,q)]) x 0=acU L x 0++(if p=x then [(x,(L.length:Int)+1,q)] else []):=by
 unfold acU;rw[List.drop_zero,List.drop_zero,List.zipIdx_append,Ea,cx]
 congr 1
 by_cases hp:p=x
 ·simp[hp]
 ·simp[hp]
theorem adD {j:Nat} (D:j<6):acW L j=acU L (5*(j:Int)) 0++acW L (j+1):=by
 have:j=0\/j=1\/j=2\/j=3\/j=4\/j=5:=ae;rcases this with rfl|rfl|rfl|rfl|rfl|rfl<;>simp[acW]
structure ado (S:Sm) (L:List (Int×Int)):Prop where
 ex:∃l,acR S l∧∀x,(qAt l x).map (fun a=>(x,a.1,a.2))=acU L x 0
theorem ado.new (P:PD) (h:0<P.count):ado (Mk.new P).S []:=by
 refine⟨[],⟨?_,fun x M _ D=>?_⟩,fun x=>rfl⟩
 ·unfold Mk.new
  simp[gM,h]
 ·unfold Mk.new at D
  simp only[gM] at D
  split at D
  ·exact(bW D).symm
  ·cases D
theorem pn.asc (hF:pn P S) (h:acR S l):Asc l:=(hF.xX 0 _ h.VC).oV
theorem ado.add (hn:0<P.n) (hF:pn P m.S) (h:ado m.S L) (hq:1<=aw):ado (iE P m ((L.length:Int)+1) 0 1 ag aw 1).1.S (L++[(ag,aw)]):=by
 obtain⟨l,D,I⟩:=h.ex;refine⟨_,(adu hn D hq).1,fun x=>?_⟩;rw[adC (hF.asc D),adH,<-I x]
 by_cases hx:x=ag
 ·rw[if_pos hx,if_pos hx.symm,cx];rfl
 ·rw[if_neg hx,if_neg (fun e=>hx e.symm),fe]
theorem ado.flat (hF:pn P S) (h:ado S L) (hL:∀a∈L,a.1∈([0,5,10,15,20,25]:List Int)) (hlen:L.length<=30):∃l,acR S l/\ads l/\acZ l=acW L 0:=by
 obtain⟨l,h1,h2⟩:=h.ex;have O:=hF.xX 0 _ h1.VC;have D:∀r∈l,∀e∈r.2,(r.1,e.id,e.aw)∈acU L r.1 0:=fun r hr e he=>by
  rw[<-h2 r.1];refine aV.2 ⟨(e.id,e.aw),?_,rfl⟩;unfold qAt;exact dD.2 ⟨r,lX.2 ⟨hr,bT⟩,aV.2 ⟨e,he,rfl⟩⟩
 have J:∀x a,a∈acU L x 0->∃(i:Nat) (q:Int),L[i]?=some (x,q)/\a=(x,(i:Int)+1,q):=fun x a ha=>by
  unfold acU at ha;rw[List.drop_zero] at ha;obtain⟨b,O,rfl⟩:=aV.1 ha;obtain⟨a2,ax⟩:=lX.1 O;obtain⟨⟨p,q⟩,i⟩:=b;have:=List.mem_zipIdx_iff_getElem?.1 a2;simp at ax;subst ax;exact⟨i,q,this,rfl⟩
 have ay:∀r∈l,r.1∈([0,5,10,15,20,25]:List Int):=fun r hr=>by
  have a3:=O.Ol r hr
  cases a0:r.2 with
  |nil=>exact absurd a0 a3
  |cons e es=>
   obtain⟨i,q,h3,_⟩:=J _ _ (D r hr e (by rw[a0];simp));exact hL _ (aH h3)
 refine⟨l,h1,⟨?_,fun e he=>?_,O.Ol,fun r hr=>?_,fun r hr=>?_⟩,?_⟩
 ·have:=O.nd
  unfold BM.I at this;simpa[gY] using this
 ·have h3:=O.ok e (by unfold BM.I;exact aJ.2 (.inr he))
  obtain⟨r,hr,he⟩:=dD.1 he;obtain⟨i,q,h4,h5⟩:=J _ _ (D r hr e he);have hi:=(az.1 h4).1;refine⟨h3.1,h3.2.1,?_⟩;have h6:e.id=(i:Int)+1:=by injection h5 with _ h5;injection h5
  omega
 ·have:=ay r hr
  simp at this;omega
 ·exact(O.lvl (k:=1) hr).2.1
 ·rw[adn (X:=[0,5,10,15,20,25]) (by decide) (hF.asc h1) ay]
  unfold acW;rw[List.drop_zero];exact ac1 fun x _=>h2 x
theorem adp {f:ir} (h:(R.drop n).filter acT=f::F):∃r,R[n]?=some r/\(r.id=500->(R.drop (n+1)).filter acT=f::F)/\(r.id≠500->r=f/\(R.drop (n+1)).filter acT=F):=by
 have hn:n<R.length:=by
  apply Nat.lt_of_not_le;intro hc;rw[Vj hc] at h
  cases h
 rw[iB hn,gN] at h;refine⟨R[n],aj hn,fun hi=>?_,fun hi=>?_⟩
 ·have:acT R[n]=false:=by unfold acT;simp[hi]
  rw[this] at h;exact h
 ·have:acT R[n]=true:=by unfold acT;simpa using hi
  rw[this] at h;injection h with D I;exact⟨D,I⟩
end Go.Proofs.YtbaaheidifacaaaGreat
