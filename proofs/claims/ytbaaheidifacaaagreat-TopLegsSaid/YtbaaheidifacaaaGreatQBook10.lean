import Derived.Test.YtbaaheidifacaaaGreatQBook5
set_option linter.defProp false
set_option linter.unusedVariables false
set_option linter.unusedSimpArgs false
set_option maxRecDepth 100000
set_option maxHeartbeats 12800000
namespace Go.Proofs.YtbaaheidifacaaaGreat
variable {A:Option Addr} {C C':dK} {F:Nat→Prop} {G:Prop} {L sp:List Nat} {Ls:List (List Nat)} {M:BM} {b i k n:Nat} {e:dn} {aK:Nat→dn} {id p q aw:Int} {l:List (Int×Nat)} {r:iQ} {v:Nat→List dn} {w w':World}
open Go.RowKit
theorem sH:kA Tryz.prog 22 3 (Iz 0) 1 8:=
 ⟨Tryz.underlying22,let ⟨i,h,D,I,J⟩:=info_parts Tryz.MY;⟨i,h,D,I,J⟩,rfl,ae,ae⟩
theorem bS.Ru (h:bS w b C) {c:Nat} {l:List Nat} (hn:l.length=n) (own:w'.ownsRow 0 3 1 (.slice A n c) n (nE l)) (L:Lv (fun k=>some k=(Value.slice C.Ap C.spare.length C.cp).ownBlock) w w')
  (jV:(Value.slice A n c).ownBlock=(Value.slice C.Ap C.spare.length C.cp).ownBlock\/∃g,(Value.slice A n c).ownBlock=some g/\w.heap.size<=g) (hl:n<=100000):
  bS (w'.setCell ⟨b,6,none⟩ (.slice A n c)) b {C with Ap:=A,cp:=c,spare:=l}/\(∀k,ik b {C with Ap:=A,cp:=c,spare:=l} k->ik b C k\/w.heap.size<=k)/\Lv (ik b C) w (w'.setCell ⟨b,6,none⟩ (.slice A n c)):=by
 subst hn;obtain⟨n1,n2,n3,n4,n5⟩:=h.apart;have hF:∀{k:Nat} {cur:Array Value} {T:TypeId},w.heap[k]?=some (.cells cur T (0,0))->T≠3->¬some k=(Value.slice C.Ap C.spare.length C.cp).ownBlock:=by
  intro k cur T hk hT hs;obtain⟨a6,O⟩:=bY h.op hs.symm;rw[hk] at O;injection O with O;injection O with _ ht;exact hT ht
 have keep:∀{k:Nat},k<w.heap.size->¬some k=(Value.slice C.Ap C.spare.length C.cp).ownBlock->k≠b->(w'.setCell ⟨b,6,none⟩ (.slice A l.length c)).heap[k]?=w.heap[k]?:=fun hk J h2=>(av _ _ _ _ h2).trans (L.block _ hk J);have a0:aE w' b 195 C.cells:=h.D.block (L.block b h.D.lt (hF h.D (by decide)));have ax:=a0.set 6 (.slice A l.length c);have a2:∀g,(Value.slice A l.length c).ownBlock=some g->g≠b:=by
  intro g hg;rcases jV with I|⟨g',I,a5⟩
  ·rw[I] at hg;exact n5 g hg
  ·rw[I] at hg;injection hg with hg;have:=h.D.lt;omega
 have ay:(w'.setCell ⟨b,6,none⟩ (.slice A l.length c)).ownsRow 0 3 1 (.slice A l.length c) l.length (nE l):=aX own fun g hg=>av _ _ _ _ (a2 g hg);refine⟨⟨ax,h.ar.same fun k hk=>?_,aX h.o0 fun g hg=>?_,aX h.o1 fun g hg=>?_,h.ne,h.mp.block (keep h.mp.lt ?_ n4),ay,?_⟩,fun k hk=>?_,?_⟩
 ·obtain⟨cur,T,O,hT⟩:=h.ar.types k hk
  exact keep (h.ar.lt k hk) (hF O (by rcases hT with rfl|rfl|rfl<;>decide)) (n1 k hk)
 ·obtain⟨cur,O⟩:=bY h.o0 hg
  exact keep (h.o0.lt g hg).2 (hF O (by decide)) (n2 g hg)
 ·obtain⟨cur,O⟩:=bY h.o1 hg
  exact keep (h.o1.lt g hg).2 (hF O (by decide)) (n3 g hg)
 ·intro hs
  obtain⟨cur,O⟩:=bY h.op hs.symm;obtain⟨D,⟨es,clock,hm,_⟩,_⟩:=h.mp;rw[hm] at O
  cases O
 ·exact⟨h.small.1,h.small.2.1,hl⟩
 ·rcases hk with J|J|J|J|J|J
  ·exact .inl (.inl J)
  ·exact .inl (.inr (.inl J))
  ·exact .inl (.inr (.inr (.inl J)))
  ·exact .inl (.inr (.inr (.inr (.inl J))))
  ·exact .inl (.inr (.inr (.inr (.inr (.inl J)))))
  ·rcases jV with I|⟨g',I,a5⟩
   ·exact .inl (.inr (.inr (.inr (.inr (.inr (I▸J))))))
   ·right
    have h2:(Value.slice A l.length c).ownBlock=some k:=J;rw[I] at h2;injection h2 with h2;omega
 ·exact(L.mono fun k hk=> .inl (.inr (.inr (.inr (.inr (.inr hk.symm)))))).setCell (p:=⟨b,6,none⟩) (.inl rfl) _
def aI (F:Nat→Prop) (a c:World):Prop:=∀k,F k→c.heap[k]?=a.heap[k]?
theorem aI.tr (F:Nat->Prop) (x y z:World) (h:aI F x y) (I:aI F y z):aI F x z:=fun k D=>(I k D).trans (h k D)
theorem aI.J (F:Nat->Prop) (a:World):aI F a a:=fun _ _=>rfl
theorem aI.cell {a c:World} (h:aI F a c) (D:F b):c.cell? ⟨b,i,none⟩=a.cell? ⟨b,i,none⟩:=gK (a:=⟨b,i,none⟩) (h b D)
theorem xF {z h x:Bool} (e:z=(h && x)):(h && !x)=if z=true then false else h:=by subst e;cases h<;>cases x<;>rfl
def dK.kH (C:dK) (id:Int):dK:={C with f:=fun y=>if y=id then none else C.f y,n:=C.n - 1,s0:={C.s0 with has:=C.s0.has && !(C.s0.top==id)}}
def dK.Nn (C:dK) (id:Int) (F q:Nat) (Ap:Option Addr) (cp:Nat):dK:={(C.kH id) with s0:={(C.kH id).s0 with l:=C.s0.l.eraseIdx F},Ap:=Ap,cp:=cp,spare:=C.spare++[q]}
structure OR (w w':World) (b:Nat) (C:dK) (id p:Int) (q:Nat) (cnt:Int):Prop where
 h:∃C',bS w' b C'∧(∀j,ik b C' j→ik b C j∨w.heap.size≤j)∧((cnt≠0∧C'=C.kH id)∨(cnt=0∧∃Ap cp,C'=C.Nn id (cj 0 C.s0.l p) q Ap cp))
 lv:Lv (ik b C) w w'
namespace Ka
abbrev yC {α:Type} [OfNat α (nat_lit 7)]:α:=OfNat.ofNat (nat_lit 7)
end Ka
theorem VF (z:G:=by
 have I:∀k,k≠b->(w.setCell ⟨b,yC,none⟩ (.bool false)).heap[k]?=w.heap[k]?:=fun k J=>av _ _ _ _ J;obtain⟨n1,n2,O,n4,n5⟩:=h.apart;exact⟨h.D.set yC _,h.ar.same fun k J=>I k (n1 k J),aX h.o0 fun g hg=>I g (n2 g hg),aX h.o1 fun g hg=>I g (O g hg),h.ne,h.mp.block (I _ n4),aX h.op fun g hg=>I g (n5 g hg),h.small⟩
 ):G:=z
open Ka in
theorem bS.Wr (h:bS w b C):bS (w.setCell ⟨b,7,none⟩ (.bool false)) b {C with s0:={C.s0 with has:=false}}:=VF
theorem KV (b:Nat) (C:dK) (id p:Int) (i q:Nat) (Q:jl) (w:World) (h:bS w b C) (ck:dZ id) (hf:(C.f id).isSome=true) (hr:C.s0.l[cj 0 C.s0.l p]?=some (p,q)) (hQ:C.X.H[q]?=some Q) (cl:C.spare.length<90000):
  Wz 150 #[Pz b,Iz id,cR 1 p i] w fun e w'=>e= .returned (.tuple #[])/\OR w w' b C id p q Q.count:=by
 have eL:IntKind.i64.wrap 0=0:=aN _ ae;have eM:IntKind.i64.wrap 1=1:=aN _ ae;unfold cR;obtain⟨wA,a7⟩:=Zn (w.alloc (.cells #[Iz 1,Iz p,Iz (i:Int)] 199));obtain⟨O,ax⟩:=Zn w.heap.size;have DA:=Zq a7 ax;have BA:=Zw a7;have hA:=h.below BA;have ay:∀j,ik b C j->j≠O:=fun j I=>cA (h.lt j I);obtain⟨w2,bp,bU,a8⟩:=hA.mp.del Tryz.underlying191 ck 0;rw[hf] at bU;have H2:bS w2 b {C with f:=fun y=>if y=id then none else C.f y,n:=C.n - 1}:=hA.mapped bU a8;have D2:aE w2 O 199 #[Iz 1,Iz p,Iz (i:Int)]:=DA.block (a8.block O DA.lt (by intro e;injection e with e;exact ay C.mb (.inr (.inr (.inr (.inr (.inl rfl))))) e.symm));have c2:Cz wA b 3 (.map (some C.mb)):=hA.D.cell 3;have x0:Cz w2 O 0 (Iz 1):=D2.cell 0;have x1:Cz w2 O 1 (Iz p):=D2.cell 1;obtain⟨hs,bV⟩:=Zn C.s0.has;obtain⟨tp,b0⟩:=Zn C.s0.top;have cH:Cz w2 b 7 (.bool hs):=bV▸H2.D.cell 7;have cT:Cz w2 b 4 (Iz tp):=b0▸H2.D.cell 4;obtain⟨d8,d9,b2,cm,HA,ea,eb,HR,HQ,ed,ba⟩:=Hl H2 D2 bV b0 hA BA a8 hr hQ cl ay;clear h ck hf hr hQ cl DA BA hA bU a8 H2 D2 bV b0 ay;rw[a7] at bp c2;rw[ax] at x0 x1
 go_enter Tryz.func150,Tryz.ntmps150
 go_upto_region 2 with(fail)
 rw[<-ax];rw[<-ax] at x0 x1;have eO:=ao ax;clear bp c2 ax a7;obtain⟨z,ez⟩:=Zn (hs && (tp==id));have EZ:=ao ez;clear ez
 go_cut [33] (fun v wx=>v= .bool z/\Hid (∃n,wx=w2.drewN n))
 case first=>
  rcases(cG hs).symm with e1|e1
  ·subst e1
   have hz:z=false:=EZ.h;clear EZ;subst hz
   go_quiet (fail)
   go_wp2_with fail;go_meet;exact⟨rfl,ao ⟨_,rfl⟩⟩
  ·subst e1
   have hz:(tp==id)=z:=EZ.h.symm;have HZ:=ao hz;clear EZ hz
   go_quiet (fail)
   rw[HZ.h];go_wp2_with fail;go_meet;exact⟨rfl,ao ⟨_,rfl⟩⟩
 obtain⟨rfl,b7⟩:=hcut;have hh:wc.heap=w2.heap:=by obtain⟨n,hn⟩:=b7.h;rw[hn];rfl
 have H3:bS wc b {C with f:=fun y=>if y=id then none else C.f y,n:=C.n - 1}:=d8.h.same fun _ _=>by rw[hh]
 have D3:aE wc O 199 #[Iz 1,Iz p,Iz (i:Int)]:=d9.h.block (by rw[hh]);have L3:Lv (ik b C) w wc:=by
  obtain⟨n,hn⟩:=b7.h;rw[hn];exact Lv.trans (Lv.iD ea.h (Lv.dy (F:=ik b C) eb.h fun j I=> .inl (by injection I with I;subst I;exact .inr (.inr (.inr (.inr (.inl rfl))))))) (Lv.drewN (Lv.refl (ik b C) w2) n) fun j I=> .inl I
 have fH:=H3.D.frozen 7;have cH:Cz wc b 7 (.bool hs):=b2.h▸H3.D.cell 7;have cn:=D3.lt;have l0:∀u,Below wc.heap.size wc.drew u->Cz u O 0 (Iz 1):=fun u hu=>Yb hu cn (D3.cell 0);obtain⟨ct,cv,cF⟩:=fY H3 D3 L3;clear hh H3 D3 L3 b7 cn
 go_upto_if 33 with(fail)
 clear x0 x1 cT
 go_cut [] (fun wx=>Hid (bS wx b (C.kH id)/\aE wx O 199 #[Iz 1,Iz p,Iz (i:Int)]/\Lv (ik b C) w wx))
 case first=>
  rcases(cG z).symm with e1|e1
  ·subst e1
   clear l0 fH cH;go_wp2_with fail;go_meet;have e:C.kH id={C with f:=fun y=>if y=id then none else C.f y,n:=C.n - 1}:=by
    unfold dK.kH;rw[xF (z:=false) (b2.h▸cm.h▸EZ.h)];rfl
   rw[e];exact ao ⟨ct.h,cv.h,cF.h⟩
  ·subst e1
   have e:C.kH id={C with f:=fun y=>if y=id then none else C.f y,n:=C.n - 1,s0:={C.s0 with has:=false}}:=by
    unfold dK.kH;rw[xF (z:=true) (b2.h▸cm.h▸EZ.h)];rfl
   have h3:bS (wc.drew.setCell ⟨b,7,none⟩ (.bool false)) b (C.kH id):=e▸ct.h.drew.Wr;have h4:aE (wc.drew.setCell ⟨b,7,none⟩ (.bool false)) O 199 #[Iz 1,Iz p,Iz (i:Int)]:=cv.h.block (av _ _ _ _ (fun e=>ba.h b (.inl rfl) e.symm));have h5:Lv (ik b C) w (wc.drew.setCell ⟨b,7,none⟩ (.bool false)):=Lv.setCell cF.h.drew (p:=⟨b,7,none⟩) (.inl rfl) _;have HH:=ao (And.intro h3 (And.intro h4 h5));clear h3 h4 h5 e;go_wp2_with fail;refine Zb wc.heap.size 7 [7] [0,1,2,3,4,5,6,7] ?_;refine Yt ?_;refine Zl fun K hK=>?_;go_simp;refine Yl hK ?_;refine aT ?_;go_wp2_with fail;go_meet;exact HH
 clear cH fH l0;obtain⟨h3,h4,h5⟩:=hcut.h;obtain⟨F,eF⟩:=Zn (cj 0 C.s0.l p);have hF:C.s0.l[F]?=some (p,q):=eF▸HR.h;have hB:jx C.s0.l F p=true:=by unfold jx;rw[hF];simp
 have a2:Wz 164 #[Pz b,Iz 1,Iz p] wc fun e w'=>e= .returned (.tuple #[Iz (F:Int), .bool true])/\Bz wc w':=by
  have:=sD b (C.kH id) p wc h3;rw[show(C.kH id).s0.l=C.s0.l from rfl,<-eF,hB] at this;exact this
 have z0:Cz wc O 0 (Iz 1):=h4.cell 0;have z1:Cz wc O 1 (Iz p):=h4.cell 1;obtain⟨K3,K4,K5,ef,HF⟩:=rU h3 h4 h5 eF hF;clear h3 h4 h5 eF hF hB;go_wp2_with fail;refine a2.mono ?_;rintro e w4⟨rfl,b4⟩;have H4:=K3.h.below b4;have D4:aE w4 O 199 #[Iz 1,Iz p,Iz (i:Int)]:=K4.h.block (b4.block O K4.h.lt);have L4:=K5.h.cV b4;obtain⟨g,hA,r0,r1⟩:=qC H4.o0 (i:=F) (r:=(p,q)) HF.h;simp only at r0 r1;have b8:C.s0.A=some ⟨g,0,none⟩:=hA;have c0:Cz w4 b 0 (Pz C.a):=H4.D.cell 0;have c1:Cz w4 b 1 (.slice (some ⟨g,0,none⟩) C.s0.l.length C.s0.c):=b8▸H4.D.cell 1;have y0:Cz w4 O 0 (Iz 1):=D4.cell 0;obtain⟨N,eN⟩:=Zn C.s0.l.length;have iF:F<N:=eN▸aO HF.h;rw[<-eN] at c1;have i1:(F:Int)<N:=ae;obtain⟨eg,ei,ej,a0,HN,IF⟩:=FW H4 D4 L4 b8 eN iF;clear H4 D4 L4 hA b8 eN z0 z1 a2 iF;go_wp2_with fail
 go_quiet (fail)
 obtain⟨w5,a5⟩:=Zn (w4.drewN nq);rw[<-a5];have H5:bS w5 b (C.kH id):=a5▸eg.h.drewN _;have D5:aE w5 O 199 #[Iz 1,Iz p,Iz (i:Int)]:=a5▸ei.h;have L5:Lv (ik b C) w w5:=a5▸ej.h.drewN _;clear r0 r1 y0 c1 c0 i1 a5;have c0:Cz w5 b 0 (Pz C.a):=H5.D.cell 0;obtain⟨bb,ek,b9⟩:=fY H5 D5 L5;clear H5 D5 L5;go_wp2_with fail;refine(wK C.a C.gs C.rq C.X q Q _ bb.h.ar HQ.h).mono ?_;rintro e w6⟨rfl,rfl⟩;clear c0
 by_cases hc:Q.count=0
 ·have i2:(Q.count==0)=true:=by rw[hc];rfl
  obtain⟨K,eK⟩:=Zn C.spare.length;have H5:=bb.h;have c6:Cz w5 b 6 (.slice C.Ap K C.cp):=eK▸H5.D.cell 6;have f6:=H5.D.frozen 6;have cQ:w5.ownsRow 0 3 1 (.slice C.Ap K C.cp) K (nE C.spare):=eK▸H5.op;have hK:K<90000:=eK▸ed.h;have cS:=H5.D.lt;have cX:∀j,(Value.slice C.Ap K C.cp).ownBlock=some j->j≠b:=fun j I=>H5.apart.2.2.2.2 j (by rw[eK] at I;exact I);obtain⟨HC,HK,el⟩:=fY hc eK cX;clear hc eK cX H5
  go_wp2_with (at_builtin
               refine dO sH cQ #[Iz (q:Int)] rfl _ _ rfl rfl rfl rfl (by intro u hu;simp at hu;subst hu;rfl) ae (aB _) ?_;intro A2 bc w6 bt g6 b6 l6;have cd:w6.heap[b]?=w5.heap[b]?:=g6.block b cS fun e=>el.h b e.symm rfl;have eo:w6.cell? ⟨b,6,none⟩=_:=Yd cd c6;have ep:Fz w6 b 6:=(aY (a:=⟨b,6,none⟩) cd).trans f6;obtain⟨er,et,eu⟩:=fY bt g6 l6;clear c6 f6 cQ cd bt g6 b6 l6)
  have dc:(C.spare++[q]).length=K+1:=by simp[HK.h]
  have dp:Lv (fun j=>some j=(Value.slice C.Ap K C.cp).ownBlock) w5 w6:=Lv.dy et.h fun j I=> .inl I.symm;have a6:w6.ownsRow 0 3 1 (.slice A2 (K+1) bc) (K+1) (nE (C.spare++[q])):=by
   have:=er.h;unfold nE at this⊢;rw[cx];exact this
  obtain⟨H7,F7,L7⟩:=bb.h.Ru dc a6 (by rw[show(C.kH id).spare=C.spare from rfl,<-HK.h];exact dp) (by
   rw[show(C.kH id).spare=C.spare from rfl,<-HK.h];rcases eu.h with h1|h1
   ·exact .inl h1
   ·exact .inr ⟨_,h1,ae⟩) ae
  obtain⟨w7,dS⟩:=Zn (w6.setCell ⟨b,6,none⟩ (.slice A2 (K+1) bc));rw[<-dS] at H7 L7⊢;have ew:O≠b:=fun e=>ba.h b (.inl rfl) e.symm;have D7:aE w7 O 199 #[Iz 1,Iz p,Iz (i:Int)]:=ek.h.lv L7 fun I=>ba.h O I rfl;have bE:=H7.D.lt;have dT:=D7.lt;have c1:Cz w7 b 1 (.slice (some ⟨g,0,none⟩) N C.s0.c):=a0.h▸HN.h▸H7.D.cell 1;obtain⟨Fs,bf⟩:=Zn (fun j=>j=b\/j=O:Nat->Prop);have m0:Fs b:=bf▸.inl rfl;have m1:Fs O:=bf▸.inr rfl;have l0:∀u,aI Fs w7.drew u->Cz u O 0 (Iz 1):=fun u hu=>(hu.cell m1).trans (D7.cell 0);have l1:∀u,aI Fs w7.drew u->Cz u b 1 (.slice (some ⟨g,0,none⟩) N C.s0.c):=fun u hu=>(hu.cell m0).trans c1;have bH:w7.ownsRow 0 227 2 (.slice (some ⟨g,0,none⟩) N C.s0.c) N (cB C.s0.l):=by
   have:=H7.o0;unfold jX.v at this;rw[HN.h,<-a0.h];exact this
  have ay:g≠b/\g≠O:=by
   have hg:C.s0.v.ownBlock=some g:=by unfold jX.v;rw[a0.h];rfl
   have h1:=(H7.apart);refine⟨?_,?_⟩
   ·first
    |exact h1.2.1 g hg
    |exact h1.2.2.1 g hg
   ·exact ba.h g (by first|exact .inr (.inr (.inl hg))|exact .inr (.inr (.inr (.inl hg))))
  obtain⟨J,eJ⟩:=Zn (F+1);have d2:N<=100000:=by rw[HN.h];first|exact H7.small.1|exact H7.small.2.1
  have eP:IntKind.i64.wrap ((F:Int)+1)=(J:Int):=by have:=IF.h;rw[aN _ ae];omega
  obtain⟨cf,ey,eA,bQ,HJ,d3,eB,eC,eD,d4⟩:=QM H7 F7 L7 ay eJ d2 bH D7 bE bf;clear dc dp a6 H7 F7 L7 ew c1 bH ay d2 D7 eJ dS eo ep i2 cS hK bE dT m0 m1 bf;refine bx (R:=aI Fs) 19 [15,19] [0,1,2,3,4,5,6,7,8,9,10,11,12,13,14,16,17,15,18,19] (by kernel_rfl) (aI.tr _) (aI.J _) (by kernel_rfl) (fun _ _ _ _ _ h=>h) ?_;refine Yt ?_;clear l0 l1;refine Ym fun K hK=>?_;refine(Ic g C.s0.c C.s0.l N F J w7.drew (aX eB.h fun _ _=>rfl) HN.h.symm HJ.h IF.h (cA d3.h)).mono ?_;rintro e w8⟨rfl,bR,d5⟩;have L8:Lv (fun j=>j=g) w7 w8:=Lv.then (Lv.refl _ w7).drew d5;have bh:aI Fs w7.drew w8:=fun j I=>by
   rw[d4.h] at I;rcases I with rfl|rfl
   ·exact L8.block _ eD.h fun e=>bQ.h.1 e.symm
   ·exact L8.block _ eC.h.lt fun e=>bQ.h.2 e.symm
  have m0:Fs b:=d4.h▸.inl rfl;have eQ:Cz w8 b 1 (.slice C.s0.A C.s0.l.length C.s0.c):=(bh.cell m0).trans (cf.h.D.cell 1);have eR:Fz w8 b 1:=(aY (a:=⟨b,1,none⟩) (bh b m0)).trans (cf.h.D.frozen 1);have hlen:(C.s0.l.eraseIdx F).length=N - 1:=by rw[iU,if_pos (HN.h▸IF.h),HN.h]
  have d6:=cf.h.DB (w':=w8) (A:=some ⟨g,0,none⟩) (c:=C.s0.c) (n:=N - 1) (l:=C.s0.l.eraseIdx F) hlen bR (L8.mono fun j I=> .inl (by subst I;show some j=C.s0.v.ownBlock;unfold jX.v;rw[a0.h];rfl)) (.inl (by show _=C.s0.v.ownBlock;unfold jX.v;rw[a0.h];rfl)) (cA d3.h);obtain⟨eE,eG⟩:=dF d6 bh;clear bR L8 d5 d6 hlen bh m0;refine Yo hK (eG.h) ?_;refine Yt ?_;refine Zl fun K hK=>?_;go_simp;refine Yl hK ?_;refine aT ?_;go_wp2_with fail
  go_end0
  obtain⟨k1,k2,k3⟩:=eE.h;have Lw:Lv (ik b C) w w7:=Lv.trans b9.h eA.h fun j I=> .inl I;have eS:=b9.h.size;have eI:=Lw.size;have d7:∀j,ik b {(C.kH id) with Ap:=A2,cp:=bc,spare:=C.spare++[q]} j->ik b C j\/w.heap.size<=j:=fun j I=>by
   rcases ey.h j I with h1|h1
   ·exact .inl h1
   ·exact .inr ae
  refine⟨rfl,⟨_,k1,fun j I=>?_, .inr ⟨HC.h,A2,bc,?_⟩⟩,Lw.trans k3 fun j I=>d7 j I⟩
  ·rcases k2 j I with h1|h1
   ·exact d7 j h1
   ·exact .inr ae
  ·unfold dK.DB dK.Nn
   rw[<-ef.h,<-a0.h];rfl
 ·have i2:(Q.count==0)=false:=by simpa using hc
  have HC:=ao hc;clear hc;go_wp2_with fail
  go_end0
  exact⟨rfl,⟨C.kH id,bb.h,fun j I=> .inl I, .inl ⟨HC.h,rfl⟩⟩,b9.h⟩
def dK.kI (C:dK) (id:Int):dK:={C with f:=fun y=>if y=id then none else C.f y,n:=C.n - 1,s1:={C.s1 with has:=C.s1.has && !(C.s1.top==id)}}
def dK.Np (C:dK) (id:Int) (F q:Nat) (Ap:Option Addr) (cp:Nat):dK:={(C.kI id) with s1:={(C.kI id).s1 with l:=C.s1.l.eraseIdx F},Ap:=Ap,cp:=cp,spare:=C.spare++[q]}
structure OS (w w':World) (b:Nat) (C:dK) (id p:Int) (q:Nat) (cnt:Int):Prop where
 h:∃C',bS w' b C'∧(∀j,ik b C' j→ik b C j∨w.heap.size≤j)∧((cnt≠0∧C'=C.kI id)∨(cnt=0∧∃Ap cp,C'=C.Np id (cj 1 C.s1.l p) q Ap cp))
 lv:Lv (ik b C) w w'
namespace Kb
abbrev yC {α:Type} [OfNat α (nat_lit 8)]:α:=OfNat.ofNat (nat_lit 8)
end Kb
open Kb in
theorem bS.Ws (h:bS w b C):bS (w.setCell ⟨b,8,none⟩ (.bool false)) b {C with s1:={C.s1 with has:=false}}:=VF
theorem KW (b:Nat) (C:dK) (id p:Int) (i q:Nat) (Q:jl) (w:World) (h:bS w b C) (ck:dZ id) (hf:(C.f id).isSome=true) (hr:C.s1.l[cj 1 C.s1.l p]?=some (p,q)) (hQ:C.X.H[q]?=some Q) (cl:C.spare.length<90000):
  Wz 150 #[Pz b,Iz id,cR 2 p i] w fun e w'=>e= .returned (.tuple #[])/\OS w w' b C id p q Q.count:=by
 have eL:IntKind.i64.wrap 0=0:=aN _ ae;have eM:IntKind.i64.wrap 1=1:=aN _ ae;unfold cR;obtain⟨wA,a7⟩:=Zn (w.alloc (.cells #[Iz 2,Iz p,Iz (i:Int)] 199));obtain⟨O,ax⟩:=Zn w.heap.size;have DA:=Zq a7 ax;have BA:=Zw a7;have hA:=h.below BA;have ay:∀j,ik b C j->j≠O:=fun j I=>cA (h.lt j I);obtain⟨w2,bp,bU,a8⟩:=hA.mp.del Tryz.underlying191 ck 0;rw[hf] at bU;have H2:bS w2 b {C with f:=fun y=>if y=id then none else C.f y,n:=C.n - 1}:=hA.mapped bU a8;have D2:aE w2 O 199 #[Iz 2,Iz p,Iz (i:Int)]:=DA.block (a8.block O DA.lt (by intro e;injection e with e;exact ay C.mb (.inr (.inr (.inr (.inr (.inl rfl))))) e.symm));have c2:Cz wA b 3 (.map (some C.mb)):=hA.D.cell 3;have x0:Cz w2 O 0 (Iz 2):=D2.cell 0;have x1:Cz w2 O 1 (Iz p):=D2.cell 1;obtain⟨hs,bV⟩:=Zn C.s1.has;obtain⟨tp,b0⟩:=Zn C.s1.top;have cH:Cz w2 b 8 (.bool hs):=bV▸H2.D.cell 8;have cT:Cz w2 b 5 (Iz tp):=b0▸H2.D.cell 5;obtain⟨d8,d9,b2,cm,HA,ea,eb,HR,HQ,ed,ba⟩:=Hl H2 D2 bV b0 hA BA a8 hr hQ cl ay;clear h ck hf hr hQ cl DA BA hA bU a8 H2 D2 bV b0 ay;rw[a7] at bp c2;rw[ax] at x0 x1
 go_enter Tryz.func150,Tryz.ntmps150
 go_upto_region 2 with(fail)
 rw[<-ax];rw[<-ax] at x0 x1;have eO:=ao ax;clear bp c2 ax a7;obtain⟨z,ez⟩:=Zn (hs && (tp==id));have EZ:=ao ez;clear ez
 go_cut [33] (fun v wx=>v= .bool z/\Hid (∃n,wx=w2.drewN n))
 case first=>
  rcases(cG hs).symm with e1|e1
  ·subst e1
   have hz:z=false:=EZ.h;clear EZ;subst hz
   go_quiet (fail)
   go_wp2_with fail;go_meet;exact⟨rfl,ao ⟨_,rfl⟩⟩
  ·subst e1
   have hz:(tp==id)=z:=EZ.h.symm;have HZ:=ao hz;clear EZ hz
   go_quiet (fail)
   rw[HZ.h];go_wp2_with fail;go_meet;exact⟨rfl,ao ⟨_,rfl⟩⟩
 obtain⟨rfl,b7⟩:=hcut;have hh:wc.heap=w2.heap:=by obtain⟨n,hn⟩:=b7.h;rw[hn];rfl
 have H3:bS wc b {C with f:=fun y=>if y=id then none else C.f y,n:=C.n - 1}:=d8.h.same fun _ _=>by rw[hh]
 have D3:aE wc O 199 #[Iz 2,Iz p,Iz (i:Int)]:=d9.h.block (by rw[hh]);have L3:Lv (ik b C) w wc:=by
  obtain⟨n,hn⟩:=b7.h;rw[hn];exact Lv.trans (Lv.iD ea.h (Lv.dy (F:=ik b C) eb.h fun j I=> .inl (by injection I with I;subst I;exact .inr (.inr (.inr (.inr (.inl rfl))))))) (Lv.drewN (Lv.refl (ik b C) w2) n) fun j I=> .inl I
 have fH:=H3.D.frozen 8;have cH:Cz wc b 8 (.bool hs):=b2.h▸H3.D.cell 8;have cn:=D3.lt;have l0:∀u,Below wc.heap.size wc.drew u->Cz u O 0 (Iz 2):=fun u hu=>Yb hu cn (D3.cell 0);obtain⟨ct,cv,cF⟩:=fY H3 D3 L3;clear hh H3 D3 L3 b7 cn
 go_upto_if 33 with(fail)
 clear x0 x1 cT
 go_cut [] (fun wx=>Hid (bS wx b (C.kI id)/\aE wx O 199 #[Iz 2,Iz p,Iz (i:Int)]/\Lv (ik b C) w wx))
 case first=>
  rcases(cG z).symm with e1|e1
  ·subst e1
   clear l0 fH cH;go_wp2_with fail;go_meet;have e:C.kI id={C with f:=fun y=>if y=id then none else C.f y,n:=C.n - 1}:=by
    unfold dK.kI;rw[xF (z:=false) (b2.h▸cm.h▸EZ.h)];rfl
   rw[e];exact ao ⟨ct.h,cv.h,cF.h⟩
  ·subst e1
   have e:C.kI id={C with f:=fun y=>if y=id then none else C.f y,n:=C.n - 1,s1:={C.s1 with has:=false}}:=by
    unfold dK.kI;rw[xF (z:=true) (b2.h▸cm.h▸EZ.h)];rfl
   have h3:bS (wc.drew.setCell ⟨b,8,none⟩ (.bool false)) b (C.kI id):=e▸ct.h.drew.Ws;have h4:aE (wc.drew.setCell ⟨b,8,none⟩ (.bool false)) O 199 #[Iz 2,Iz p,Iz (i:Int)]:=cv.h.block (av _ _ _ _ (fun e=>ba.h b (.inl rfl) e.symm));have h5:Lv (ik b C) w (wc.drew.setCell ⟨b,8,none⟩ (.bool false)):=Lv.setCell cF.h.drew (p:=⟨b,8,none⟩) (.inl rfl) _;have HH:=ao (And.intro h3 (And.intro h4 h5));clear h3 h4 h5 e;go_wp2_with fail;refine Zb wc.heap.size 7 [7] [0,1,2,3,4,5,6,7] ?_;refine Yt ?_;refine Zl fun K hK=>?_;go_simp;refine Yl hK ?_;refine aT ?_;go_wp2_with fail;go_meet;exact HH
 clear cH fH l0;obtain⟨h3,h4,h5⟩:=hcut.h;obtain⟨F,eF⟩:=Zn (cj 1 C.s1.l p);have hF:C.s1.l[F]?=some (p,q):=eF▸HR.h;have hB:jx C.s1.l F p=true:=by unfold jx;rw[hF];simp
 have a2:Wz 164 #[Pz b,Iz 2,Iz p] wc fun e w'=>e= .returned (.tuple #[Iz (F:Int), .bool true])/\Bz wc w':=by
  have:=sF b (C.kI id) p wc h3;rw[show(C.kI id).s1.l=C.s1.l from rfl,<-eF,hB] at this;exact this
 have z0:Cz wc O 0 (Iz 2):=h4.cell 0;have z1:Cz wc O 1 (Iz p):=h4.cell 1;obtain⟨K3,K4,K5,ef,HF⟩:=rU h3 h4 h5 eF hF;clear h3 h4 h5 eF hF hB;go_wp2_with fail;refine a2.mono ?_;rintro e w4⟨rfl,b4⟩;have H4:=K3.h.below b4;have D4:aE w4 O 199 #[Iz 2,Iz p,Iz (i:Int)]:=K4.h.block (b4.block O K4.h.lt);have L4:=K5.h.cV b4;obtain⟨g,hA,r0,r1⟩:=qC H4.o1 (i:=F) (r:=(p,q)) HF.h;simp only at r0 r1;have b8:C.s1.A=some ⟨g,0,none⟩:=hA;have c0:Cz w4 b 0 (Pz C.a):=H4.D.cell 0;have c1:Cz w4 b 2 (.slice (some ⟨g,0,none⟩) C.s1.l.length C.s1.c):=b8▸H4.D.cell 2;have y0:Cz w4 O 0 (Iz 2):=D4.cell 0;obtain⟨N,eN⟩:=Zn C.s1.l.length;have iF:F<N:=eN▸aO HF.h;rw[<-eN] at c1;have i1:(F:Int)<N:=ae;obtain⟨eg,ei,ej,a0,HN,IF⟩:=FW H4 D4 L4 b8 eN iF;clear H4 D4 L4 hA b8 eN z0 z1 a2 iF;go_wp2_with fail
 go_quiet (fail)
 obtain⟨w5,a5⟩:=Zn (w4.drewN nq);rw[<-a5];have H5:bS w5 b (C.kI id):=a5▸eg.h.drewN _;have D5:aE w5 O 199 #[Iz 2,Iz p,Iz (i:Int)]:=a5▸ei.h;have L5:Lv (ik b C) w w5:=a5▸ej.h.drewN _;clear r0 r1 y0 c1 c0 i1 a5;have c0:Cz w5 b 0 (Pz C.a):=H5.D.cell 0;obtain⟨bb,ek,b9⟩:=fY H5 D5 L5;clear H5 D5 L5;go_wp2_with fail;refine(wK C.a C.gs C.rq C.X q Q _ bb.h.ar HQ.h).mono ?_;rintro e w6⟨rfl,rfl⟩;clear c0
 by_cases hc:Q.count=0
 ·have i2:(Q.count==0)=true:=by rw[hc];rfl
  obtain⟨K,eK⟩:=Zn C.spare.length;have H5:=bb.h;have c6:Cz w5 b 6 (.slice C.Ap K C.cp):=eK▸H5.D.cell 6;have f6:=H5.D.frozen 6;have cQ:w5.ownsRow 0 3 1 (.slice C.Ap K C.cp) K (nE C.spare):=eK▸H5.op;have hK:K<90000:=eK▸ed.h;have cS:=H5.D.lt;have cX:∀j,(Value.slice C.Ap K C.cp).ownBlock=some j->j≠b:=fun j I=>H5.apart.2.2.2.2 j (by rw[eK] at I;exact I);obtain⟨HC,HK,el⟩:=fY hc eK cX;clear hc eK cX H5
  go_wp2_with (at_builtin
               refine dO sH cQ #[Iz (q:Int)] rfl _ _ rfl rfl rfl rfl (by intro u hu;simp at hu;subst hu;rfl) ae (aB _) ?_;intro A2 bc w6 bt g6 b6 l6;have cd:w6.heap[b]?=w5.heap[b]?:=g6.block b cS fun e=>el.h b e.symm rfl;have eo:w6.cell? ⟨b,6,none⟩=_:=Yd cd c6;have ep:Fz w6 b 6:=(aY (a:=⟨b,6,none⟩) cd).trans f6;obtain⟨er,et,eu⟩:=fY bt g6 l6;clear c6 f6 cQ cd bt g6 b6 l6)
  have dc:(C.spare++[q]).length=K+1:=by simp[HK.h]
  have dp:Lv (fun j=>some j=(Value.slice C.Ap K C.cp).ownBlock) w5 w6:=Lv.dy et.h fun j I=> .inl I.symm;have a6:w6.ownsRow 0 3 1 (.slice A2 (K+1) bc) (K+1) (nE (C.spare++[q])):=by
   have:=er.h;unfold nE at this⊢;rw[cx];exact this
  obtain⟨H7,F7,L7⟩:=bb.h.Ru dc a6 (by rw[show(C.kI id).spare=C.spare from rfl,<-HK.h];exact dp) (by
   rw[show(C.kI id).spare=C.spare from rfl,<-HK.h];rcases eu.h with h1|h1
   ·exact .inl h1
   ·exact .inr ⟨_,h1,ae⟩) ae
  obtain⟨w7,dS⟩:=Zn (w6.setCell ⟨b,6,none⟩ (.slice A2 (K+1) bc));rw[<-dS] at H7 L7⊢;have ew:O≠b:=fun e=>ba.h b (.inl rfl) e.symm;have D7:aE w7 O 199 #[Iz 2,Iz p,Iz (i:Int)]:=ek.h.lv L7 fun I=>ba.h O I rfl;have bE:=H7.D.lt;have dT:=D7.lt;have c1:Cz w7 b 2 (.slice (some ⟨g,0,none⟩) N C.s1.c):=a0.h▸HN.h▸H7.D.cell 2;obtain⟨Fs,bf⟩:=Zn (fun j=>j=b\/j=O:Nat->Prop);have m0:Fs b:=bf▸.inl rfl;have m1:Fs O:=bf▸.inr rfl;have l0:∀u,aI Fs w7.drew u->Cz u O 0 (Iz 2):=fun u hu=>(hu.cell m1).trans (D7.cell 0);have l1:∀u,aI Fs w7.drew u->Cz u b 2 (.slice (some ⟨g,0,none⟩) N C.s1.c):=fun u hu=>(hu.cell m0).trans c1;have bH:w7.ownsRow 0 227 2 (.slice (some ⟨g,0,none⟩) N C.s1.c) N (cB C.s1.l):=by
   have:=H7.o1;unfold jX.v at this;rw[HN.h,<-a0.h];exact this
  have ay:g≠b/\g≠O:=by
   have hg:C.s1.v.ownBlock=some g:=by unfold jX.v;rw[a0.h];rfl
   have h1:=(H7.apart);refine⟨?_,?_⟩
   ·first
    |exact h1.2.1 g hg
    |exact h1.2.2.1 g hg
   ·exact ba.h g (by first|exact .inr (.inr (.inl hg))|exact .inr (.inr (.inr (.inl hg))))
  obtain⟨J,eJ⟩:=Zn (F+1);have d2:N<=100000:=by rw[HN.h];first|exact H7.small.1|exact H7.small.2.1
  have eP:IntKind.i64.wrap ((F:Int)+1)=(J:Int):=by have:=IF.h;rw[aN _ ae];omega
  obtain⟨cf,ey,eA,bQ,HJ,d3,eB,eC,eD,d4⟩:=QM H7 F7 L7 ay eJ d2 bH D7 bE bf;clear dc dp a6 H7 F7 L7 ew c1 bH ay d2 D7 eJ dS eo ep i2 cS hK bE dT m0 m1 bf;refine bx (R:=aI Fs) 19 [15,19] [0,1,2,3,4,5,6,7,8,9,10,11,12,13,14,16,17,15,18,19] (by kernel_rfl) (aI.tr _) (aI.J _) (by kernel_rfl) (fun _ _ _ _ _ h=>h) ?_;refine Yt ?_;clear l0 l1;refine Ym fun K hK=>?_;refine(Ic g C.s1.c C.s1.l N F J w7.drew (aX eB.h fun _ _=>rfl) HN.h.symm HJ.h IF.h (cA d3.h)).mono ?_;rintro e w8⟨rfl,bR,d5⟩;have L8:Lv (fun j=>j=g) w7 w8:=Lv.then (Lv.refl _ w7).drew d5;have bh:aI Fs w7.drew w8:=fun j I=>by
   rw[d4.h] at I;rcases I with rfl|rfl
   ·exact L8.block _ eD.h fun e=>bQ.h.1 e.symm
   ·exact L8.block _ eC.h.lt fun e=>bQ.h.2 e.symm
  have m0:Fs b:=d4.h▸.inl rfl;have eQ:Cz w8 b 2 (.slice C.s1.A C.s1.l.length C.s1.c):=(bh.cell m0).trans (cf.h.D.cell 2);have eR:Fz w8 b 2:=(aY (a:=⟨b,2,none⟩) (bh b m0)).trans (cf.h.D.frozen 2);have hlen:(C.s1.l.eraseIdx F).length=N - 1:=by rw[iU,if_pos (HN.h▸IF.h),HN.h]
  have d6:=cf.h.DD (w':=w8) (A:=some ⟨g,0,none⟩) (c:=C.s1.c) (n:=N - 1) (l:=C.s1.l.eraseIdx F) hlen bR (L8.mono fun j I=> .inl (by subst I;show some j=C.s1.v.ownBlock;unfold jX.v;rw[a0.h];rfl)) (.inl (by show _=C.s1.v.ownBlock;unfold jX.v;rw[a0.h];rfl)) (cA d3.h);obtain⟨eE,eG⟩:=dF d6 bh;clear bR L8 d5 d6 hlen bh m0;refine Yo hK (eG.h) ?_;refine Yt ?_;refine Zl fun K hK=>?_;go_simp;refine Yl hK ?_;refine aT ?_;go_wp2_with fail
  go_end0
  obtain⟨k1,k2,k3⟩:=eE.h;have Lw:Lv (ik b C) w w7:=Lv.trans b9.h eA.h fun j I=> .inl I;have eS:=b9.h.size;have eI:=Lw.size;have d7:∀j,ik b {(C.kI id) with Ap:=A2,cp:=bc,spare:=C.spare++[q]} j->ik b C j\/w.heap.size<=j:=fun j I=>by
   rcases ey.h j I with h1|h1
   ·exact .inl h1
   ·exact .inr ae
  refine⟨rfl,⟨_,k1,fun j I=>?_, .inr ⟨HC.h,A2,bc,?_⟩⟩,Lw.trans k3 fun j I=>d7 j I⟩
  ·rcases k2 j I with h1|h1
   ·exact d7 j h1
   ·exact .inr ae
  ·unfold dK.DD dK.Np
   rw[<-ef.h,<-a0.h];rfl
 ·have i2:(Q.count==0)=false:=by simpa using hc
  have HC:=ao hc;clear hc;go_wp2_with fail
  go_end0
  exact⟨rfl,⟨C.kI id,bb.h,fun j I=> .inl I, .inl ⟨HC.h,rfl⟩⟩,b9.h⟩
theorem KX (a gs:Nat) (rq:Option Nat) (X:qd) (Ls:List (List Nat)) (aK:Nat->dn) (n k i:Nat) (L:List Nat) (aw:Int) (w:World) (h:cY w a gs rq X) (R:fB X Ls aK) (D:Ls[n]?=some L) (hi:L[k]?=some i) (hq:aw<1):
  Wz 149 #[Pz a,Iz (i:Int),Iz aw] w fun e w'=>e= .returned (Iz 24)/\Bz w w':=by
 have hs:=R.sl n L k i D hi
 go_enter Tryz.func149,Tryz.ntmps149
 go_wp2_with fail;refine(qZ a gs rq X i _ _ h hs (.pointer (some ⟨gs,i*8,none⟩)) rfl).mono ?_;rintro e w'⟨rfl,rfl⟩;clear hs R D hi;go_wp2_with fail;go_ret;exact⟨rfl,aa _ _⟩
theorem qD {B:Nat} (h:B<=w.heap.size) (o D:Obj):Below B (w.alloc o) (w.alloc D):=
 ⟨rfl,rfl,rfl,by show(w.alloc o).heap.size<=(w.alloc D).heap.size;simp,fun k I=>(du w D k ae).trans (du w o k ae).symm⟩
theorem IP (b:Nat) (C:dK) (Ls:List (List Nat)) (aK:Nat->dn) (side id p:Int) (i n k:Nat) (L:List Nat) (w:World) (h:bS w b C) (R:fB C.X Ls aK) (a6:dZ id) (hf:C.f id=some (cR side p i)) (hL:Ls[n]?=some L) (hi:L[k]?=some i):
  Wz 71 #[Pz b,Iz id] w fun e w'=>e= .returned (.tuple #[.agg #[Iz id,Iz side,Iz p,Iz (aK i).aw, .bool (aK i).top], .bool true])/\Bz w w':=by
 have a7:(Instr.lookup 191 (.map (some C.mb)) (Iz id) true).run Tryz.prog (w.alloc (.cells #[Iz 0,Iz 0,Iz 0,Iz 0, .bool false] 81))= .ok (.tuple #[cR side p i, .bool true]) (w.alloc (.cells #[Iz 0,Iz 0,Iz 0,Iz 0, .bool false] 81)):=by
  have:=sG (h.mp.below (au (aa _ w) (.cells #[Iz 0,Iz 0,Iz 0,Iz 0, .bool false] 81))) a6;rw[hf] at this;exact this
 have c3:Cz w b 3 (.map (some C.mb)):=h.D.cell 3;have bU:=h.D.lt;unfold cR at a7
 go_enter Tryz.func71,Tryz.ntmps71
 obtain⟨I,O⟩:=Zn ((w.alloc (.cells #[Iz 0,Iz 0,Iz 0,Iz 0, .bool false] 81)).alloc (.cells #[Iz side,Iz p,Iz (i:Int)] 199));obtain⟨gO,ay⟩:=Zn w.heap.size;obtain⟨gP,a0⟩:=Zn (w.heap.size+1);have DP:aE I gP 199 #[Iz side,Iz p,Iz (i:Int)]:=by
  have:=aE.new (w.alloc (.cells #[Iz 0,Iz 0,Iz 0,Iz 0, .bool false] 81)) #[Iz side,Iz p,Iz (i:Int)] 199;rw[O,a0];simpa using this
 have J:aE I gO 81 #[Iz 0,Iz 0,Iz 0,Iz 0, .bool false]:=O▸ay▸(aE.new w #[Iz 0,Iz 0,Iz 0,Iz 0, .bool false] 81).block (du _ _ _ bT);have BA:Bz w I:=O▸au (au (aa _ _) _) _;have HA:=h.below BA;have l0:∀u,Below I.heap.size I.drew u->Cz u b 0 (Pz C.a):=fun u hu=>Yb hu HA.D.lt (HA.D.cell 0);have l2:∀u,Below I.heap.size I.drew u->Cz u gP 2 (Iz (i:Int)):=fun u hu=>Yb hu DP.lt (DP.cell 2);have bc:Hid (w.heap.size<=gO):=ao ae;obtain⟨a8,bf,bh,bp,HR,HL,HI⟩:=yY HA DP J BA R hL hi;clear HA DP J BA R hL hi a6 hf h
 go_upto_region 4 with(fail)
 rw[<-O,<-a0,<-ay];clear O a0 ay a7 c3
 go_cut [8,9] (fun v v' wx=>v'= .bool true/\∃g,v= Pz g/\Hid (aE wx g 202 #[Iz (i:Int),Iz (aK i).id,Iz (aK i).aw, .bool (aK i).top]/\Bz I wx))
 case first=>
  refine Zy I.heap.size 13 ?_;refine Zr [0,1,2,3,4,5] 7 ?_;refine Yr ?_;clear l0 l2;refine Zf [6,10] 6 ?_;refine Zo (fun K hK=>?_) ?_
  ·go_simp
   have hg:=xp C.a C.gs C.rq C.X Ls aK n k i L _ a8.h.ar.drew HR.h HL.h HI.h;unfold Ov at hg;refine hg.mono ?_;clear hg;rintro e w1⟨rfl,b1⟩;refine Yo hK (b1) ?_;refine Zr [7,8,9] 3 ?_;refine Yr ?_;refine Zf [10] 2 ?_;refine Zo (fun K hK=>?_) ?_
   ·go_simp
    have a2:I.heap.size<=w1.heap.size:=b1.size;refine Yo hK (iV (aa _ _) a2 _) ?_;refine Zf [11] 1 ?_;refine Zo (fun K hK=>?_) ?_
    ·go_simp
     refine Yo hK (qD a2 _ _) ?_;refine Zr [12] 0 ?_;refine Yr ?_;refine Ze ?_;go_wp2_with fail;go_meet;exact⟨rfl,_,rfl,ao ⟨aE.new _ _ _,dW (aS (aa _ I)) (b1.alloc a2 _)⟩⟩
    exact aQ
   exact aQ
  refine Zo (fun K hK=>?_) ?_
  ·go_simp
   refine Yo hK (fo I _) ?_;obtain⟨wB,ax⟩:=Zn ((I.alloc (.cells #[Iz 0,Iz 0,Iz 0, .bool false] 202)).drew);obtain⟨g,eg⟩:=Zn I.heap.size;have D0:aE wB g 202 #[Iz 0,Iz 0,Iz 0, .bool false]:=ax▸eg▸(aE.new I _ _).drew;have B0:Bz I wB:=ax▸aS (au (aa _ _) _);rw[<-ax,<-eg];have bt:I.heap.size<=g:=ae;have bE:g<=wB.heap.size:=cA B0.size;clear ax eg;obtain⟨bH,ba⟩:=dF D0 B0;clear D0 B0;refine Zf [6] 5 ?_;refine Zo (fun K hK=>?_) ?_
   ·go_simp
    have hg:=xp C.a C.gs C.rq C.X Ls aK n k i L _ (a8.h.ar.below ba.h) HR.h HL.h HI.h;unfold Ov at hg;refine hg.mono ?_;clear hg;rintro e w1⟨rfl,b1⟩;have D1:=bH.h.below b1;have z0:=D1.cell 0;have z1:=D1.cell 1;have z2:=D1.cell 2;have z3:=D1.cell 3;have y0:=D1.frozen 0;have y1:=D1.frozen 1;have y2:=D1.frozen 2;have y3:=D1.frozen 3;have hw:=bO (us:=[Iz (i:Int),Iz (aK i).id,Iz (aK i).aw, .bool (aK i).top]) D1 rfl;have B1:=dW ba.h b1;have hb:=bA (us:=[Iz (i:Int),Iz (aK i).id,Iz (aK i).aw, .bool (aK i).top]) (i:=0) bt B1;have a5:=bA (us:=[Iz (i:Int),Iz (aK i).id,Iz (aK i).aw, .bool (aK i).top]) (i:=0) (af g) (aa g w1);simp only[fW] at hw hb a5;obtain⟨HW,HB,bQ⟩:=fY hw hb a5;clear D1 hw hb a5;refine Yo hK (b1.mono bE) ?_;refine Zr [7,8,9] 2 ?_;refine Yr ?_;refine Zf [11] 1 ?_;refine Zo (fun K hK=>?_) ?_
    ·go_simp
     refine Yo hK (bQ.h) ?_;refine Zr [12] 0 ?_;refine Yr ?_;refine Ze ?_;clear z0 z1 z2 z3 y0 y1 y2 y3;go_wp2_with fail;go_meet;exact⟨rfl,g,rfl,ao ⟨HW.h,HB.h⟩⟩
    exact aQ
   exact aQ
  exact aQ
 obtain⟨rfl,g,rfl,HE⟩:=hcut;clear l0 l2;obtain⟨hE,hB⟩:=HE.h;have DP:=bf.h.below hB;have J:=bh.h.below hB;have p0:=DP.cell 0;have p1:=DP.cell 1;have e2:=hE.cell 2;have e3:=hE.cell 3;have z0:=J.cell 0;have z1:=J.cell 1;have z2:=J.cell 2;have z3:=J.cell 3;have z4:=J.cell 4;have y0:=J.frozen 0;have y1:=J.frozen 1;have y2:=J.frozen 2;have y3:=J.frozen 3;have y4:=J.frozen 4;have bR:w.heap.size<=gO:=bc.h;have hw:=bO (us:=[Iz id,Iz side,Iz p,Iz (aK i).aw, .bool (aK i).top]) J rfl;have hb:=bA (us:=[Iz id,Iz side,Iz p,Iz (aK i).aw, .bool (aK i).top]) (i:=0) bR (dW bp.h hB);simp only[fW] at hw hb;obtain⟨HW,HB⟩:=dF hw hb;clear hE hB DP J hw hb;go_wp2_with fail
 (try simp only[Exit.inBlock,Exit.then])
 obtain⟨wz,bb⟩:=Zn (((((wc.setCell ⟨gO,0,none⟩ (Iz id)).setCell ⟨gO,0+1,none⟩ (Iz side)).setCell ⟨gO,0+1+1,none⟩ (Iz p)).setCell ⟨gO,0+1+1+1,none⟩ (Iz (aK i).aw)).setCell ⟨gO,0+1+1+1+1,none⟩ (.bool (aK i).top));have hw:=HW.h;have hb:=HB.h;rw[<-bb] at hw hb;refine iv bb ?_;have r0:=hw.cell 0;have r1:=hw.cell 1;have r2:=hw.cell 2;have r3:=hw.cell 3;have r4:=hw.cell 4;clear z0 z1 z2 z3 z4 y0 y1 y2 y3 y4;refine bodyPost_ret (v:= .tuple #[.agg #[Iz id,Iz side,Iz p,Iz (aK i).aw, .bool (aK i).top], .bool true]) (by simp[results,Tryz.results71,go_sem,r0,r1,r2,r3,r4];try rfl) rfl ?_;exact⟨rfl,hb⟩
theorem OU (b:Nat) (C:dK) (id:Int) (w:World) (h:bS w b C) (O:dZ id) (hf:C.f id=none):
  Wz 71 #[Pz b,Iz id] w fun e w'=>e= .returned (.tuple #[.agg #[Iz 0,Iz 0,Iz 0,Iz 0, .bool false], .bool false])/\Bz w w':=by
 have ax:(Instr.lookup 191 (.map (some C.mb)) (Iz id) true).run Tryz.prog (w.alloc (.cells #[Iz 0,Iz 0,Iz 0,Iz 0, .bool false] 81))= .ok (.tuple #[.agg #[Iz 0,Iz 0,Iz 0], .bool false]) (w.alloc (.cells #[Iz 0,Iz 0,Iz 0,Iz 0, .bool false] 81)):=by
  have:=sG (h.mp.below (au (aa _ w) (.cells #[Iz 0,Iz 0,Iz 0,Iz 0, .bool false] 81))) O;rw[hf] at this;exact this
 have c3:Cz w b 3 (.map (some C.mb)):=h.D.cell 3;have ay:=h.D.lt;clear hf
 go_enter Tryz.func71,Tryz.ntmps71
 go_wp2_with fail;obtain⟨wz,I⟩:=Zn ((w.alloc (.cells #[Iz 0,Iz 0,Iz 0,Iz 0, .bool false] 81)).alloc (.cells #[Iz 0,Iz 0,Iz 0] 199));have J:aE wz w.heap.size 81 #[Iz 0,Iz 0,Iz 0,Iz 0, .bool false]:=I▸(aE.new w #[Iz 0,Iz 0,Iz 0,Iz 0, .bool false] 81).block (du _ _ _ bT);have BA:Bz w wz:=I▸au (au (aa _ _) _) _;refine iv I ?_;have r0:=J.cell 0;have r1:=J.cell 1;have r2:=J.cell 2;have r3:=J.cell 3;have r4:=J.cell 4;refine bodyPost_ret (v:= .tuple #[.agg #[Iz 0,Iz 0,Iz 0,Iz 0, .bool false], .bool false]) (by simp[results,Tryz.results71,go_sem,r0,r1,r2,r3,r4];try rfl) rfl ?_;exact⟨rfl,BA⟩
namespace Ka
abbrev jv {α:Type} [OfNat α (nat_lit 1)]:α:=OfNat.ofNat (nat_lit 1)
end Ka
theorem XH {p:Prop} (h:p:=by (try dsimp only [jv] at *);omega):p:=h
theorem VG (z:G:=by
 have c3:w.cell? ⟨b,3,none⟩=some (.map (some C.mb)):=h.D.cell 3;have ay:(Instr.lookup 191 (.map (some C.mb)) (Iz id) true).run Tryz.prog w= .ok (.tuple #[cR jv p i, .bool true]) w:=by
  have:=sG h.mp hid;rw[hf] at this;exact this
 unfold cR at ay;obtain⟨w0,I⟩:=Zn (w.alloc (.cells #[Iz jv,Iz p,Iz (i:Int)] 199));obtain⟨gP,ax⟩:=Zn w.heap.size;have D0:=Zq I ax;have B0:=Zw I;have H0:=h.below B0;have a0:∀j,ik b C j->j≠gP:=fun j hj=>by have:=h.lt j hj;exact XH
 obtain⟨Fs,O⟩:=Zn (fun j=>j=b\/j=gP:Nat->Prop);have m0:Fs b:=by rw[O];exact .inl rfl
 have m1:Fs gP:=by rw[O];exact .inr rfl
 have l0:∀u,aI Fs w0.drew u->u.cell? ⟨b,0,none⟩=some (Pz C.a):=fun u hu=>(hu.cell m0).trans (H0.D.cell 0);have l2:∀u,aI Fs w0.drew u->u.cell? ⟨gP,2,none⟩=some (Iz (i:Int)):=fun u hu=>(hu.cell m1).trans (D0.cell 2);have a6:=h.D.lt;obtain⟨a7,a8,a2,bb,ba,bc,HR,HL,HI,HQ,bf,HF⟩:=QN D0 B0 H0 a0 O m0 R hL hi hq hid hf;clear D0 B0 H0 a0 O m0 m1 R hL hi hid hf h a6 hq
 go_enter Tryz.func111,Tryz.ntmps111
 go_upto_region 4 with(fail)
 rw[<-I,<-ax];clear I ax ay c3;refine bx (R:=aI Fs) 99999 [7] [0,1,2,3,4,5,6,7,8] (by kernel_rfl) (aI.tr _) (aI.J _) (by kernel_rfl) (fun _ _ _ _ _ h=>h) ?_;refine Yt ?_;clear l0 l2;refine Ym fun K hK=>?_;refine(KX C.a C.gs C.rq C.X Ls aK n k i L aw _ a2.h.ar.drew HR.h HL.h HI.h HQ.h).mono ?_;rintro e w1⟨rfl,b1⟩;have a5:aI Fs w0.drew w1:=fun j hj=>by
  rw[ba.h] at hj;rcases hj with rfl|rfl
  ·exact b1.block _ a2.h.D.lt
  ·exact b1.block _ a7.h.lt
 refine Yo hK (a5) ?_;clear a5;refine Yt ?_;refine aT ?_;go_wp2_with fail;go_ret;exact⟨rfl,dW (aS a8.h) b1⟩
 ):G:=z
open Ka in
theorem IQ (b:Nat) (C:dK) (Ls:List (List Nat)) (aK:Nat->dn) (id p aw:Int) (i n k:Nat) (L:List Nat) (w:World) (h:bS w b C) (R:fB C.X Ls aK) (hid:dZ id) (hf:C.f id=some (cR 1 p i)) (hL:Ls[n]?=some L) (hi:L[k]?=some i) (hq:aw<1):
  Wz 111 #[Pz b,Iz id,Iz aw] w fun e w'=>e= .returned (Iz 24)/\Bz w w':=VG
structure Rv (w w':World) (b:Nat) (C:dK) (Ls:List (List Nat)) (aK:Nat→dn) (i:Nat) (aw:Int):Prop where
 h:∃X',bS w' b {C with X:=X'}∧fB X' Ls (fun x=>if x=i then {aK i with aw:=(aK i).aw - aw} else aK x)
 lv:Lv (ik b C) w w'
namespace Ka
abbrev rj:=@bS.xz
end Ka
theorem Nq {p:Prop} (h:p:=by (try dsimp only [jv,rj] at *);omega):p:=h
theorem VH (z:G:=by
 have c3:w.cell? ⟨b,3,none⟩=some (.map (some C.mb)):=h.D.cell 3;have bE:(Instr.lookup 191 (.map (some C.mb)) (Iz id) true).run Tryz.prog w= .ok (.tuple #[cR jv p i, .bool true]) w:=by
  have:=sG h.mp hid;rw[hf] at this;exact this
 unfold cR at bE;obtain⟨w0,a2⟩:=Zn (w.alloc (.cells #[Iz jv,Iz p,Iz (i:Int)] 199));obtain⟨gP,bc⟩:=Zn w.heap.size;have D0:=Zq a2 bc;have B0:=Zw a2;have H0:=h.below B0;have bH:∀j,ik b C j->j≠gP:=fun j hj=>by have:=h.lt j hj;exact Nq
 obtain⟨Fs,a5⟩:=Zn (fun j=>j=b\/j=gP:Nat->Prop);have m0:Fs b:=by rw[a5];exact .inl rfl
 have m1:Fs gP:=by rw[a5];exact .inr rfl
 have l0:∀u,aI Fs w0.drew u->u.cell? ⟨b,0,none⟩=some (Pz C.a):=fun u hu=>(hu.cell m0).trans (H0.D.cell 0);have l2:∀u,aI Fs w0.drew u->u.cell? ⟨gP,2,none⟩=some (Iz (i:Int)):=fun u hu=>(hu.cell m1).trans (D0.cell 2);have b0:=h.D.lt;obtain⟨a6,a7,a8,bQ,b2,cd,HR,HL,HI,HQ,cf,HF,HE⟩:=QO D0 B0 H0 bH a5 m0 R hL hi hq hid hf he;clear D0 B0 H0 bH a5 m0 m1 R hL hi hid hf h b0 hq he
 go_enter Tryz.func111,Tryz.ntmps111
 go_upto_region 4 with(fail)
 rw[<-a2,<-bc];clear a2 bc bE c3;refine bx (R:=aI Fs) 99999 [7] [0,1,2,3,4,5,6,7,8] (by kernel_rfl) (aI.tr _) (aI.J _) (by kernel_rfl) (fun _ _ _ _ _ h=>h) ?_;refine Yt ?_;clear l0 l2;refine Ym fun K hK=>?_;refine(Ej C.a C.gs C.rq C.X Ls aK n k i L aw _ a8.h.ar.drew HR.h HL.h HI.h ⟨HQ.h.1,by have:=HQ.h.2;exact Nq⟩).mono ?_;rintro e w1⟨rfl,⟨X',hX,bf,a0⟩,I⟩;have ba:Lv (qA C.a C.gs C.rq) w0 w1:=Lv.then (Lv.refl _ w0).drew I;have H1:=rj a8.h hX ba;have D1:aE w1 gP 199 #[Iz jv,Iz p,Iz (i:Int)]:=a6.h.lv ba fun hj=>bQ.h gP (.inr (.inl hj)) rfl;have ax:aI Fs w0.drew w1:=fun j hj=>by
  rw[b2.h] at hj;rcases hj with rfl|rfl
  ·exact I.block _ a8.h.D.lt fun hj=>a8.h.apart.1 _ hj rfl
  ·exact I.block _ a6.h.lt fun hj=>bQ.h _ (.inr (.inl hj)) rfl
 have L1:Lv (ik b C) w w1:=Lv.iD a7.h (ba.mono fun j hj=> .inl (.inr (.inl hj)));have R1:=a0 HQ.h.2;obtain⟨ay,bh,bR,bp⟩:=mh H1 D1 L1 R1;clear ba I H1 D1 L1 hX bf a0 R1;refine Yo hK (ax) ?_;clear ax;refine Yt ?_;refine aT ?_
 go_upto_region 7 with(fail)
 obtain⟨O,bU⟩:=Zn w1;rw[<-bU] at ay bh bR⊢;clear bU;have l0:∀u,Below O.heap.size O.drew u->u.cell? ⟨b,0,none⟩=some (Pz C.a):=fun u hu=>Yb hu ay.h.D.lt (ay.h.D.cell 0);have l2:∀u,Below O.heap.size O.drew u->u.cell? ⟨gP,2,none⟩=some (Iz (i:Int)):=fun u hu=>Yb hu bh.h.lt (bh.h.cell 2)
 go_cut [10,11] (fun v v' wx=>v'= .bool true/\∃g,v= Pz g/\Hid (aE wx g 202 #[Iz (i:Int),Iz id,Iz ((aK i).aw - aw), .bool (aK i).top]/\Bz O wx))
 case first=>
  refine Zy O.heap.size 13 ?_;refine Zr [0,1,2,3,4,5] 7 ?_;refine Yr ?_;clear l0 l2;refine Zf [6,10] 6 ?_;refine Zo (fun K hK=>?_) ?_
  ·go_simp
   have hg:=xp C.a C.gs C.rq X' Ls _ n k i L _ ay.h.ar.drew bp.h HL.h HI.h;simp only[Ov,if_true,HE.h] at hg;refine hg.mono ?_;clear hg;rintro e w1⟨rfl,b1⟩;refine Yo hK (b1) ?_;refine Zr [7,8,9] 3 ?_;refine Yr ?_;refine Zf [10] 2 ?_;refine Zo (fun K hK=>?_) ?_
   ·go_simp
    have bt:O.heap.size<=w1.heap.size:=b1.size;refine Yo hK (iV (aa _ _) bt _) ?_;refine Zf [11] 1 ?_;refine Zo (fun K hK=>?_) ?_
    ·go_simp
     refine Yo hK (qD bt _ _) ?_;refine Zr [12] 0 ?_;refine Yr ?_;refine Ze ?_;go_wp2_with fail;go_meet;exact⟨rfl,_,rfl,ao ⟨aE.new _ _ _,dW (aS (aa _ O)) (b1.alloc bt _)⟩⟩
    exact aQ
   exact aQ
  refine Zo (fun K hK=>?_) ?_
  ·go_simp
   refine Yo hK (fo O _) ?_;obtain⟨wB,bb⟩:=Zn ((O.alloc (.cells #[Iz 0,Iz 0,Iz 0, .bool false] 202)).drew);obtain⟨g,eg⟩:=Zn O.heap.size;have D0:aE wB g 202 #[Iz 0,Iz 0,Iz 0, .bool false]:=by rw[bb,eg];exact(aE.new O _ _).drew
   have B0:Bz O wB:=by rw[bb];exact aS (au (aa _ _) _)
   rw[<-bb,<-eg];have b7:O.heap.size<=g:=Nq;have b8:g<=wB.heap.size:=by have:=B0.size;exact Nq
   clear bb eg;obtain⟨a6,a7⟩:=dF D0 B0;clear D0 B0;refine Zf [6] 5 ?_;refine Zo (fun K hK=>?_) ?_
   ·go_simp
    have hg:=xp C.a C.gs C.rq X' Ls _ n k i L _ (ay.h.ar.below a7.h) bp.h HL.h HI.h;simp only[Ov,if_true,HE.h] at hg;refine hg.mono ?_;clear hg;rintro e w1⟨rfl,b1⟩;have D1:=a6.h.below b1;have z0:=D1.cell 0;have z1:=D1.cell 1;have z2:=D1.cell 2;have z3:=D1.cell 3;have y0:=D1.frozen 0;have y1:=D1.frozen 1;have y2:=D1.frozen 2;have y3:=D1.frozen 3;have hw:=bO (us:=[Iz (i:Int),Iz id,Iz ((aK i).aw - aw), .bool (aK i).top]) D1 rfl;have B1:=dW a7.h b1;have hb:=bA (us:=[Iz (i:Int),Iz id,Iz ((aK i).aw - aw), .bool (aK i).top]) (i:=0) b7 B1;have ax:=bA (us:=[Iz (i:Int),Iz id,Iz ((aK i).aw - aw), .bool (aK i).top]) (i:=0) (af g) (aa g w1);simp only[fW] at hw hb ax;obtain⟨HW,HB,b9⟩:=fY hw hb ax;clear D1 hw hb ax;refine Yo hK (b1.mono b8) ?_;refine Zr [7,8,9] 2 ?_;refine Yr ?_;refine Zf [11] 1 ?_;refine Zo (fun K hK=>?_) ?_
    ·go_simp
     refine Yo hK (b9.h) ?_;refine Zr [12] 0 ?_;refine Yr ?_;refine Ze ?_;clear z0 z1 z2 z3 y0 y1 y2 y3;go_wp2_with fail;go_meet;exact⟨rfl,g,rfl,ao ⟨HW.h,HB.h⟩⟩
    exact aQ
   exact aQ
  exact aQ
 obtain⟨rfl,g,rfl,HG⟩:=hcut;clear l0 l2;obtain⟨hE,hB⟩:=HG.h;have e1:=hE.cell 1;have bV:=ao hB;clear hE hB;go_wp2_with fail;go_ret;exact⟨rfl,⟨X',ay.h.below bV.h,bp.h⟩,bR.h.cV bV.h⟩
 ):G:=z
open Ka in
theorem IU (b:Nat) (C:dK) (Ls:List (List Nat)) (aK:Nat->dn) (id p aw:Int) (i n k:Nat) (L:List Nat) (w:World) (h:bS w b C) (R:fB C.X Ls aK) (hid:dZ id) (hf:C.f id=some (cR 1 p i)) (hL:Ls[n]?=some L) (hi:L[k]?=some i)
  (he:(aK i).id=id) (hq:1<=aw/\aw<(aK i).aw):
  Wz 111 #[Pz b,Iz id,Iz aw] w fun e w'=>e= .returned (Iz 0)/\Rv w w' b C Ls aK i aw:=VH
structure Rw (w w':World) (b:Nat) (C:dK) (Ls:List (List Nat)) (aK:Nat→dn) (id p:Int) (n k:Nat) (L:List Nat):Prop where
 h:∃X' C',bS w' b C'∧(∀j,ik b C' j→ik b C j∨w.heap.size≤j)∧fB X' (Ls.set n (L.eraseIdx k)) aK∧
  ((L.eraseIdx k≠[]∧C'=dK.kH {C with X:=X'} id)∨(L.eraseIdx k=[]∧∃Ap cp,C'=dK.Nn {C with X:=X'} id (cj 0 C.s0.l p) n Ap cp))
 lv:Lv (ik b C) w w'
namespace Ka
abbrev Et:=@KV
end Ka
theorem Eu {p:Prop} (h:p:=by (try dsimp only [jv,rj] at *);omega):p:=h
theorem VI (z:G:=by
 have c3:w.cell? ⟨b,3,none⟩=some (.map (some C.mb)):=h.D.cell 3;have bQ:(Instr.lookup 191 (.map (some C.mb)) (Iz id) true).run Tryz.prog w= .ok (.tuple #[cR jv p i, .bool true]) w:=by
  have:=sG h.mp hid;rw[hf] at this;exact this
 unfold cR at bQ;obtain⟨w0,a2⟩:=Zn (w.alloc (.cells #[Iz jv,Iz p,Iz (i:Int)] 199));obtain⟨gP,bE⟩:=Zn w.heap.size;have D0:=Zq a2 bE;have B0:=Zw a2;have H0:=h.below B0;have bR:∀j,ik b C j->j≠gP:=fun j I=>by have:=h.lt j I;exact Eu
 obtain⟨Fs,a5⟩:=Zn (fun j=>j=b\/j=gP:Nat->Prop);have m0:Fs b:=by rw[a5];exact .inl rfl
 have m1:Fs gP:=by rw[a5];exact .inr rfl
 have l0:∀u,aI Fs w0.drew u->u.cell? ⟨b,0,none⟩=some (Pz C.a):=fun u hu=>(hu.cell m0).trans (H0.D.cell 0);have l2:∀u,aI Fs w0.drew u->u.cell? ⟨gP,2,none⟩=some (Iz (i:Int)):=fun u hu=>(hu.cell m1).trans (D0.cell 2);have cf:=h.D.lt;obtain⟨a6,a7,a8,bU,ck,c0,HR,HL,HI,HQ,cl,HF,cm,cn⟩:=TM D0 B0 H0 bR a5 m0 R hL hi hq hid hf hr hsp;clear D0 B0 H0 bR a5 m0 m1 R hL hi hid hf h cf hq hr hsp
 go_enter Tryz.func111,Tryz.ntmps111
 go_upto_region 4 with(fail)
 rw[<-a2,<-bE];clear a2 bE bQ c3;refine bx (R:=aI Fs) 99999 [7] [0,1,2,3,4,5,6,7,8] (by kernel_rfl) (aI.tr _) (aI.J _) (by kernel_rfl) (fun _ _ _ _ _ h=>h) ?_;refine Yt ?_;clear l0 l2;refine Ym fun K hK=>?_;refine(Ej C.a C.gs C.rq C.X Ls aK n k i L aw _ a8.h.ar.drew HR.h HL.h HI.h ⟨HQ.h.1,by have:=HQ.h.2;exact Eu⟩).mono ?_;rintro e w1⟨rfl,⟨X',hX,a0,bH⟩,O⟩;have ba:Lv (qA C.a C.gs C.rq) w0 w1:=Lv.then (Lv.refl _ w0).drew O;have H1:=rj a8.h hX ba;have D1:aE w1 gP 199 #[Iz jv,Iz p,Iz (i:Int)]:=a6.h.lv ba fun I=>bU.h gP (.inr (.inl I)) rfl;have ax:aI Fs w0.drew w1:=fun j I=>by
  rw[ck.h] at I;rcases I with rfl|rfl
  ·exact O.block _ a8.h.D.lt fun I=>a8.h.apart.1 _ I rfl
  ·exact O.block _ a6.h.lt fun I=>bU.h _ (.inr (.inl I)) rfl
 have L1:Lv (ik b C) w w1:=Lv.iD a7.h (ba.mono fun j I=> .inl (.inr (.inl I)));have R1:=a0 HQ.h.2.symm;have bh:X'.slots[i]?=some .zero:=by
  refine R1.un i ?_ fun m M hM hm=>?_
  ·rw[R1.sz,<-HR.h.sz];exact HR.h.lt HL.h HI.h
  ·rcases ri hM with⟨h1,rfl⟩|⟨h1,h2⟩
   ·obtain⟨a,ha⟩:=aG hm
    rw[mP] at ha;have:=(HR.h.inj n L _ n L k i HL.h ha HL.h HI.h).2
    split at this<;>exact Eu
   ·obtain⟨a,ha⟩:=aG hm
    exact h1 (HR.h.inj m M a n L k i h2 ha HL.h HI.h).1
 have bp:=ao bh;clear bh;obtain⟨ay,bb,bV,b0⟩:=mh H1 D1 L1 R1;clear ba O H1 D1 L1 hX a0 bH R1;refine Yo hK (ax) ?_;clear ax;refine Yt ?_;refine aT ?_
 go_upto_region 7 with(fail)
 obtain⟨wA,b2⟩:=Zn w1;rw[<-b2] at ay bb bV⊢;clear b2;have l0:∀u,Below wA.heap.size wA.drew u->u.cell? ⟨b,0,none⟩=some (Pz C.a):=fun u hu=>Yb hu ay.h.D.lt (ay.h.D.cell 0);have l2:∀u,Below wA.heap.size wA.drew u->u.cell? ⟨gP,2,none⟩=some (Iz (i:Int)):=fun u hu=>Yb hu bb.h.lt (bb.h.cell 2)
 go_cut [10,11] (fun v v' wx=>v'= .bool false/\∃g,v= Pz g/\Hid (aE wx g 202 #[Iz 0,Iz 0,Iz 0, .bool false]/\Bz wA wx))
 case first=>
  refine Zy wA.heap.size 13 ?_;refine Zr [0,1,2,3,4,5] 7 ?_;refine Yr ?_;clear l0 l2;refine Zf [6,10] 6 ?_;refine Zo (fun K hK=>?_) ?_
  ·go_simp
   have hg:=Ek C.a C.gs C.rq X' i _ _ ay.h.ar.drew bp.h rfl
   skip
   refine hg.mono ?_;clear hg;rintro e w1⟨rfl,b1⟩;refine Yo hK (b1) ?_;refine Zr [7,8,9] 3 ?_;refine Yr ?_;refine Zf [10] 2 ?_;refine Zo (fun K hK=>?_) ?_
   ·go_simp
    have bc:wA.heap.size<=w1.heap.size:=b1.size;refine Yo hK (iV (aa _ _) bc _) ?_;refine Zf [11] 1 ?_;refine Zo (fun K hK=>?_) ?_
    ·go_simp
     refine Yo hK (qD bc _ _) ?_;refine Zr [12] 0 ?_;refine Yr ?_;refine Ze ?_;go_wp2_with fail;go_meet;exact⟨rfl,_,rfl,ao ⟨aE.new _ _ _,dW (aS (aa _ wA)) (b1.alloc bc _)⟩⟩
    exact aQ
   exact aQ
  refine Zo (fun K hK=>?_) ?_
  ·go_simp
   refine Yo hK (fo wA _) ?_;obtain⟨wB,bf⟩:=Zn ((wA.alloc (.cells #[Iz 0,Iz 0,Iz 0, .bool false] 202)).drew);obtain⟨g,eg⟩:=Zn wA.heap.size;have D0:aE wB g 202 #[Iz 0,Iz 0,Iz 0, .bool false]:=by rw[bf,eg];exact(aE.new wA _ _).drew
   have B0:Bz wA wB:=by rw[bf];exact aS (au (aa _ _) _)
   rw[<-bf,<-eg];have ct:wA.heap.size<=g:=Eu;have cv:g<=wB.heap.size:=by have:=B0.size;exact Eu
   clear bf eg;obtain⟨a6,a7⟩:=dF D0 B0;clear D0 B0;refine Zf [6] 5 ?_;refine Zo (fun K hK=>?_) ?_
   ·go_simp
    have hg:=Ek C.a C.gs C.rq X' i _ _ (ay.h.ar.below a7.h) bp.h rfl
    skip
    refine hg.mono ?_;clear hg;rintro e w1⟨rfl,b1⟩;have D1:=a6.h.below b1;have z0:=D1.cell 0;have z1:=D1.cell 1;have z2:=D1.cell 2;have z3:=D1.cell 3;have y0:=D1.frozen 0;have y1:=D1.frozen 1;have y2:=D1.frozen 2;have y3:=D1.frozen 3;have hw:=bO (us:=[Iz 0,Iz 0,Iz 0, .bool false]) D1 rfl;have B1:=dW a7.h b1;have hb:=bA (us:=[Iz 0,Iz 0,Iz 0, .bool false]) (i:=0) ct B1;have ax:=bA (us:=[Iz 0,Iz 0,Iz 0, .bool false]) (i:=0) (af g) (aa g w1);simp only[fW] at hw hb ax;obtain⟨HW,HB,cF⟩:=fY hw hb ax;clear D1 hw hb ax;refine Yo hK (b1.mono cv) ?_;refine Zr [7,8,9] 2 ?_;refine Yr ?_;refine Zf [11] 1 ?_;refine Zo (fun K hK=>?_) ?_
    ·go_simp
     refine Yo hK (cF.h) ?_;refine Zr [12] 0 ?_;refine Yr ?_;refine Ze ?_;clear z0 z1 z2 z3 y0 y1 y2 y3;go_wp2_with fail;go_meet;exact⟨rfl,g,rfl,ao ⟨HW.h,HB.h⟩⟩
    exact aQ
   exact aQ
  exact aQ
 obtain⟨rfl,g,rfl,HG⟩:=hcut;clear l0 l2;obtain⟨hE,hB⟩:=HG.h;have H2:=ay.h.below hB;have D2:=bb.h.below hB;have p0:=D2.cell 0;have p1:=D2.cell 1;have p2:=D2.cell 2;have hQ:=b0.h.qs n (L.eraseIdx k) (by exact oz HL.h);have hd:=Et b {C with X:=X'} id p i n _ wc H2 cl.h (by show(C.f id).isSome=true;rw[HF.h];rfl) cm.h hQ cn.h;unfold cR at hd;obtain⟨dc,cH,cQ⟩:=fY H2 hB hd;clear hE hB H2 D2 hQ hd;go_wp2_with fail;refine cQ.h.mono ?_;rintro e w5⟨rfl,⟨C',b7,b8,bt⟩,b9⟩;clear p0 p1 p2;obtain⟨cS,cT,cd,cX⟩:=mh b7 b8 bt b9;clear b7 b8 bt b9;go_wp2_with fail;go_ret;have Lc:Lv (ik b C) w wc:=bV.h.cV cH.h;have bc:=Lc.size;refine⟨rfl,⟨X',C',cS.h,fun j I=>?_,b0.h,?_⟩,Lc.trans cX.h fun j I=> .inl I⟩
 ·rcases cT.h j I with h1|h1
  ·exact .inl h1
  ·exact .inr Eu
 ·rcases cd.h with⟨h1,h2⟩|⟨h1,Ap,cp,h2⟩
  ·exact .inl ⟨fun e=>h1 (by rw[e];rfl),h2⟩
  ·refine .inr ⟨aP (by simpa using h1),Ap,cp,h2⟩
 ):G:=z
open Ka in
theorem IV (b:Nat) (C:dK) (Ls:List (List Nat)) (aK:Nat->dn) (id p aw:Int) (i n k:Nat) (L:List Nat) (w:World) (h:bS w b C) (R:fB C.X Ls aK) (hid:dZ id) (hf:C.f id=some (cR 1 p i)) (hL:Ls[n]?=some L) (hi:L[k]?=some i)
  (hr:C.s0.l[cj 0 C.s0.l p]?=some (p,n)) (hsp:C.spare.length<90000) (hq:1<=aw/\aw=(aK i).aw):
  Wz 111 #[Pz b,Iz id,Iz aw] w fun e w'=>e= .returned (Iz 0)/\Rw w w' b C Ls aK id p n k L:=VI
namespace Kb
abbrev jv {α:Type} [OfNat α (nat_lit 2)]:α:=OfNat.ofNat (nat_lit 2)
end Kb
open Kb in
theorem IW (b:Nat) (C:dK) (Ls:List (List Nat)) (aK:Nat->dn) (id p aw:Int) (i n k:Nat) (L:List Nat) (w:World) (h:bS w b C) (R:fB C.X Ls aK) (hid:dZ id) (hf:C.f id=some (cR 2 p i)) (hL:Ls[n]?=some L) (hi:L[k]?=some i) (hq:aw<1):
  Wz 111 #[Pz b,Iz id,Iz aw] w fun e w'=>e= .returned (Iz 24)/\Bz w w':=VG
structure Rx (w w':World) (b:Nat) (C:dK) (Ls:List (List Nat)) (aK:Nat→dn) (i:Nat) (aw:Int):Prop where
 h:∃X',bS w' b {C with X:=X'}∧fB X' Ls (fun x=>if x=i then {aK i with aw:=(aK i).aw - aw} else aK x)
 lv:Lv (ik b C) w w'
namespace Kb
abbrev rj:=@bS.xA
end Kb
open Kb in
theorem IX (b:Nat) (C:dK) (Ls:List (List Nat)) (aK:Nat->dn) (id p aw:Int) (i n k:Nat) (L:List Nat) (w:World) (h:bS w b C) (R:fB C.X Ls aK) (hid:dZ id) (hf:C.f id=some (cR 2 p i)) (hL:Ls[n]?=some L) (hi:L[k]?=some i)
  (he:(aK i).id=id) (hq:1<=aw/\aw<(aK i).aw):
  Wz 111 #[Pz b,Iz id,Iz aw] w fun e w'=>e= .returned (Iz 0)/\Rx w w' b C Ls aK i aw:=VH
structure Ry (w w':World) (b:Nat) (C:dK) (Ls:List (List Nat)) (aK:Nat→dn) (id p:Int) (n k:Nat) (L:List Nat):Prop where
 h:∃X' C',bS w' b C'∧(∀j,ik b C' j→ik b C j∨w.heap.size≤j)∧fB X' (Ls.set n (L.eraseIdx k)) aK∧
  ((L.eraseIdx k≠[]∧C'=dK.kI {C with X:=X'} id)∨(L.eraseIdx k=[]∧∃Ap cp,C'=dK.Np {C with X:=X'} id (cj 1 C.s1.l p) n Ap cp))
 lv:Lv (ik b C) w w'
namespace Kb
abbrev Et:=@KW
end Kb
open Kb in
theorem IY (b:Nat) (C:dK) (Ls:List (List Nat)) (aK:Nat->dn) (id p aw:Int) (i n k:Nat) (L:List Nat) (w:World) (h:bS w b C) (R:fB C.X Ls aK) (hid:dZ id) (hf:C.f id=some (cR 2 p i)) (hL:Ls[n]?=some L) (hi:L[k]?=some i)
  (hr:C.s1.l[cj 1 C.s1.l p]?=some (p,n)) (hsp:C.spare.length<90000) (hq:1<=aw/\aw=(aK i).aw):
  Wz 111 #[Pz b,Iz id,Iz aw] w fun e w'=>e= .returned (Iz 0)/\Ry w w' b C Ls aK id p n k L:=VI
def vS (r:iQ):Bool:= !r.2.isEmpty
theorem vh {v':Nat->List dn} (h:∀r∈l,v' r.2=(v r.2).filterMap (fS id q)):kZ id q (dB v l)=(dB v' l).filter vS:=by
 unfold kZ dB;rw[di];have:List.map (yy id q∘fun r=>(r.1,v r.2)) l=List.map (fun r=>(r.1,v' r.2)) l:=cJ fun r hr=>by
  show(r.1,(v r.2).filterMap (fS id q))=_;rw[h r hr]
 rw[this];rfl
theorem uh (h:∀r∈l,v r.2≠[]):(dB v l).filter vS=dB v l:=by
 refine List.filter_eq_self.2 fun r hr=>?_;obtain⟨x,hx,rfl⟩:=iH hr;unfold vS;have:=h x hx
 cases hv:v x.2 with
 |nil=>exact absurd hv this
 |cons a b=>rfl
theorem IZ (hn:v n=[]):∀{l:List (Int×Nat)} {F:Nat},l[F]?=some (p,n)->(∀j r,l[j]?=some r->j≠F->v r.2≠[])->(dB v l).filter vS=dB v (l.eraseIdx F)
 |[],F,h,_=>by simp at h
 |x::l,0,h,hr=>by
  simp at h;subst h;have D:(dB v l).filter vS=dB v l:=uh fun r hx=>by
   obtain⟨j,I⟩:=aG hx;exact hr (j+1) r (by simpa using I) ae
  show List.filter vS ((p,v n)::dB v l)=dB v l;rw[gN,hn];simpa[vS] using D
 |x::l,F+1,h,hr=>by
  have D:=IZ hn (l:=l) (F:=F) (by simpa using h) fun j r I J=>hr (j+1) r (by simpa using I) ae;have O:=hr 0 x bT ae;show List.filter vS ((x.1,v x.2)::dB v l)=(x.1,v x.2)::dB v (l.eraseIdx F);rw[gN,D];have:vS (x.1,v x.2)=true:=by
   unfold vS
   cases hv:v x.2 with
   |nil=>exact absurd hv O
   |cons a b=>rfl
  rw[this];rfl
theorem xG {M:List dn} (h:∀e∈M,e.id≠id):M.filterMap (fS id q)=M:=by
 induction M with
 |nil=>rfl
 |cons e M D=>
  have I:fS id q e=some e:=by unfold fS;rw[if_neg (h e bT)]
  rw[dr,I,D fun x hx=>h x (by simp[hx])]
theorem I6 {ent':Nat->dn} (h:∀x∈L,fS id q (aK x)=some (ent' x)):(L.map aK).filterMap (fS id q)=L.map ent':=by
 induction L with
 |nil=>rfl
 |cons x L D=>rw[aW,dr,h x bT,D fun y I=>h y (by simp[I])];rfl
theorem xD:∀{L:List Nat} {j i:Nat},L[j]?=some i->fS id q (aK i)=none->(∀a x,L[a]?=some x->a≠j->(aK x).id≠id)->(L.map aK).filterMap (fS id q)=(L.eraseIdx j).map aK
 |[],j,i,h,_,_=>by simp at h
 |x::L,0,i,h,hc,hr=>by
  simp at h;subst h;rw[aW,dr,hc];refine xG fun e he=>?_;obtain⟨y,D,rfl⟩:=aV.1 he;obtain⟨a,ha⟩:=aG D;exact hr (a+1) y (by simpa using ha) ae
 |x::L,j+1,i,h,hc,hr=>by
  have I:=xD (L:=L) (j:=j) (by simpa using h) hc fun a y D J=>hr (a+1) y (by simpa using D) ae;have O:fS id q (aK x)=some (aK x):=by unfold fS;rw[if_neg (hr 0 x bT ae)]
  rw[aW,dr,O,I];rfl
theorem th.BG {l:List iQ} {has:Bool} {top:Int} (h:th l has top) (hs:∀r∈l,∀e∈r.2,(fS id q e).isSome=true):th (kZ id q l) has top:=by
 refine⟨h.cut,fun J=>?_⟩;obtain⟨r,D,e,I,O⟩:=h.2 J;obtain⟨x,hx⟩:=nU.1 (hs r D e I);obtain⟨r',h5,h6⟩:=rh D I hx;exact⟨r',h5,x,h6,(ve hx).1.trans O⟩
theorem pA {q:Nat} (h:Ls[q]?=some L) (D:L≠[]):dL Ls aK q≠[]:=by
 rw[ft h]
 cases L with
 |nil=>exact absurd rfl D
 |cons a b=>simp
namespace Ka
abbrev xH:=@eX.VC
abbrev xI:=@cZ.oU
abbrev BH:=@eX.VD
end Ka
theorem XI {p:Prop} (h:p:=by (try dsimp only [xH,xI,BH] at *);omega):p:=h
theorem VJ (z:G:=by
 have hf:=(xH h hr hL hi).1;refine⟨fun r D M J x hx he=>?_,fun r D M J x hx he=>?_⟩
 ·have I:=(xH h D J hx).1
  rw[he,hf] at I;injection I with I;obtain⟨_,O,h3⟩:=mF I;subst h3;refine⟨rfl,?_⟩;have hs:=(xI h.core);obtain⟨a,ha⟩:=aG D;obtain⟨c,hc⟩:=aG hr;have e1:=jy hs ha;have e2:=jy hs hc;rw[<-O] at e1;have:a=c:=by rw[<-e1,<-e2]
  subst this;rw[hc] at ha;injection ha with ha;exact ha.symm
 ·have I:=(BH h D J hx).1
  rw[he,hf] at I;injection I with I;have:=(mF I).1;exact XI
 ):G:=z
open Ka in
theorem eX.XJ (h:eX C Ls aK) (hr:(p,n)∈C.s0.l) (hL:Ls[n]?=some L) (hi:i∈L):
  (∀r∈C.s0.l,∀M,Ls[r.2]?=some M->∀x∈M,(aK x).id=(aK i).id->x=i/\r=(p,n))/\(∀r∈C.s1.l,∀M,Ls[r.2]?=some M->∀x∈M,(aK x).id≠(aK i).id):=VJ
namespace Ka
abbrev xJ:=@eX.XJ
abbrev fh:=@dK.s0
abbrev rk:=@cZ.ox
abbrev ll:=@dK.s1
abbrev rm:=@cZ.oy
abbrev ui:=@eX.yB
abbrev xK:=@eX.KU
end Ka
theorem VK {p:Prop} (h:p:=by (try dsimp only [xJ,fh,rk,ll,rm,ui,xK] at *);omega):p:=h
theorem VM (z:G:=by
 obtain⟨ent',ax⟩:=Zn (fun x=>if x=i then {aK i with aw:=(aK i).aw - aw} else aK x:Nat->dn);rw[<-ax];obtain⟨o1,o2⟩:=xJ h hr hL hi;have a0:∀x,(ent' x).id=(aK x).id:=fun x=>by
  rw[ax]
  by_cases hx:x=i
  ·subst hx;simp
  ·simp[hx]
 have hk:∀r∈(fh C).l,dL Ls ent' r.2=(dL Ls aK r.2).filterMap (fS (aK i).id aw):=fun r D=>by
  obtain⟨M,J,_⟩:=rk h.core r D;rw[ft J,ft J];refine(I6 fun x hx=>?_).symm;rw[ax];unfold fS
  by_cases O:x=i
  ·subst O
   rw[if_pos rfl,if_neg VK];simp
  ·rw[if_neg fun e=>O (o1 r D M J x hx e).1]
   simp[O]
 have hm:∀r∈(ll C).l,dL Ls ent' r.2=(dL Ls aK r.2).filterMap (fS (aK i).id aw):=fun r D=>by
  obtain⟨M,J,_⟩:=rm h.core r D;rw[ft J,ft J];refine(I6 fun x hx=>?_).symm;rw[ax];have h1:=o2 r D M J x hx;have O:x≠i:=by rintro rfl;exact h1 rfl
  unfold fS;rw[if_neg h1];simp[O]
 have lk:kZ (aK i).id aw (dB (dL Ls aK) (fh C).l)=dB (dL Ls ent') (fh C).l:=by
  rw[vh hk,uh];intro r D;obtain⟨M,J,ay⟩:=rk h.core r D;exact pA J ay
 have lm:kZ (aK i).id aw (dB (dL Ls aK) (ll C).l)=dB (dL Ls ent') (ll C).l:=by
  rw[vh hm,uh];intro r D;obtain⟨M,J,ay⟩:=rm h.core r D;exact pA J ay
 have T1:=(ui h).BG (id:=(aK i).id) (q:=aw) fun r D e he=>by
  obtain⟨x,hx,rfl⟩:=iH D;obtain⟨M,j,J,hj,rfl⟩:=lj he;unfold fS
  split
  ·rename_i a2
   have:=(o1 x hx M J j hj a2).1;subst this;rw[if_neg VK];rfl
  ·rfl
 have T2:=(xK h).BG (id:=(aK i).id) (q:=aw) fun r D e he=>by
  obtain⟨x,hx,rfl⟩:=iH D;obtain⟨M,j,J,hj,rfl⟩:=lj he;unfold fS;rw[if_neg (o2 x hx M J j hj)];rfl
 rw[lk] at T1;rw[lm] at T2;refine⟨⟨h.core.I a0,by first|exact T1|exact T2,by first|exact T1|exact T2⟩,?_⟩;unfold kD BM.cut;simp only[lk,lm]
 ):G:=z
open Ka in
theorem eX.Ue (X':qd) (h:eX C Ls aK) (hr:(p,n)∈C.s0.l) (hL:Ls[n]?=some L) (hi:i∈L) (hq:aw<(aK i).aw):
  eX {C with X:=X'} Ls (fun x=>if x=i then {aK i with aw:=(aK i).aw - aw} else aK x)/\kD {C with X:=X'} Ls (fun x=>if x=i then {aK i with aw:=(aK i).aw - aw} else aK x)=(kD C Ls aK).cut (aK i).id aw:=VM
namespace Ka
abbrev Ev {α:Type} [OfNat α (nat_lit 0)]:α:=OfNat.ofNat (nat_lit 0)
abbrev Ew:=@cZ.ON
abbrev Ex:=@cZ.Rq
abbrev Ey:=@cZ.Rr
end Ka
theorem VN (z:G:=by
 have a0:=bF hr;have ba:=bF hi;obtain⟨o1,o2⟩:=xJ h a0 hL ba;obtain⟨s1,s2,s3⟩:=Ew h.core a0;have ay:=Ex h.core R a0 hL hi;obtain⟨v',J⟩:=Zn (dL (Ls.set n (L.eraseIdx j)) aK);have bb:=aO hL;have vn:v' n=(L.eraseIdx j).map aK:=by rw[J,t9 bb]
 have a2:∀x,x≠n->v' x=dL Ls aK x:=fun x hx=>by rw[J,tZ hx]
 have a5:(L.eraseIdx j).map aK=(L.map aK).filterMap (fS (aK i).id aw):=by
  refine(xD hi (by unfold fS;rw[if_pos rfl,if_pos hq]) fun a x ha O he=>?_).symm;have:=(o1 (p,n) a0 L hL x (bF ha) he).1;subst this;exact O (R.inj n L a n L j x hL ha hL hi).2
 have hk:∀r∈(fh C).l,v' r.2=(dL Ls aK r.2).filterMap (fS (aK i).id aw):=fun r D=>by
  by_cases I:r.2=n
  ·rw[I,vn,ft hL];exact a5
  ·rw[a2 _ I]
   obtain⟨M,hM,_⟩:=rk h.core r D;refine(xG fun e he=>?_).symm;rw[ft hM] at he;obtain⟨x,hx,rfl⟩:=aV.1 he;intro a6;exact I (by rw[(o1 r D M hM x hx a6).2])
 have hm:∀r∈(ll C).l,v' r.2=(dL Ls aK r.2).filterMap (fS (aK i).id aw):=fun r D=>by
  rw[a2 _ (s2 r D)];obtain⟨M,hM,_⟩:=rm h.core r D;refine(xG fun e he=>?_).symm;rw[ft hM] at he;obtain⟨x,hx,rfl⟩:=aV.1 he;exact o2 r D M hM x hx
 have ck:=vh hk;have cm:kZ (aK i).id aw (dB (dL Ls aK) (ll C).l)=dB v' (ll C).l:=by
  rw[vh hm,uh];intro r D;obtain⟨M,hM,O⟩:=rm h.core r D;rw[a2 _ (s2 r D)];exact pA hM O
 have ax:∀r∈(fh C).l,r.2≠n->v' r.2≠[]:=fun r D I=>by
  obtain⟨M,hM,O⟩:=rk h.core r D;rw[a2 _ I];exact pA hM O
 have a7:∀r∈kZ (aK i).id aw (dB (dL Ls aK) (fh C).l),∀e∈r.2,e.id≠(aK i).id:=fun r D e he a6=>by
  obtain⟨r',h1,e',h2,h3⟩:=IM D he;obtain⟨x,hx,rfl⟩:=iH h1;obtain⟨M,y,hM,hy,rfl⟩:=lj h2;have h4:=(ve h3).1;have h5:=(o1 x hx M hM y hy (by rw[<-h4,a6])).1;subst h5;unfold fS at h3;rw[if_pos rfl,if_pos hq] at h3
  cases h3
 have T1:th (kZ (aK i).id aw (dB (dL Ls aK) (fh C).l)) ((fh C).has && !((fh C).top==(aK i).id)) (fh C).top:=by
  by_cases ht:(fh C).top=(aK i).id
  ·rw[show((fh C).has && !((fh C).top==(aK i).id))=false by rw[ht];simp]
   exact(ui h).xD ht a7
  ·rw[show((fh C).has && !((fh C).top==(aK i).id))=(fh C).has by simp[ht]]
   exact(ui h).OM fun _=>ht
 have T2:th (kZ (aK i).id aw (dB (dL Ls aK) (ll C).l)) (ll C).has (ll C).top:=(xK h).BG fun r D e he=>by
  obtain⟨x,hx,rfl⟩:=iH D;obtain⟨M,y,hM,hy,rfl⟩:=lj he;unfold fS;rw[if_neg (o2 x hx M hM y hy)];rfl
 rw[cm] at T2;rcases hC with⟨O,rfl⟩|⟨he,Ap,cp,rfl⟩
 ·have lk:kZ (aK i).id aw (dB (dL Ls aK) (fh C).l)=dB v' (fh C).l:=by
   rw[ck,uh];intro r D
   by_cases I:r.2=n
   ·rw[I,vn]
    intro h0;exact O (List.map_eq_nil_iff.1 h0)
   ·exact ax r D I
  rw[lk] at T1;have hc:cZ (fun _=>False) C.s0.l C.s1.l C.spare (fun y=>if y=(aK i).id then none else C.f y) (C.n - 1) (Ls.set n (L.eraseIdx j)) aK:=ay.mono fun q hq h0 bc=>by
   subst bc;rw[oz hL] at h0;injection h0 with h0;exact O h0
  refine⟨⟨hc,?_,?_⟩,?_⟩
  ·rw[<-J];first|exact T1|exact T2
  ·rw[<-J];first|exact T1|exact T2
  ·unfold kD BM.cut
   rw[<-J];simp only[lk,cm];rfl
 ·have lk:kZ (aK i).id aw (dB (dL Ls aK) (fh C).l)=dB v' ((fh C).l.eraseIdx (cj Ev (fh C).l p)):=by
   rw[ck];refine IZ (by rw[vn,he];rfl) hr fun a r ha a8=>?_;refine ax r (bF ha) fun I=>a8 ?_;have h1:=s1 r (bF ha) I;subst h1;exact(jy (xI h.core) ha).symm
  rw[lk] at T1;have hc:=Ey ay hr (by rw[oz hL,he]);refine⟨⟨hc,?_,?_⟩,?_⟩
  ·rw[<-J];first|exact T1|exact T2
  ·rw[<-J];first|exact T1|exact T2
  ·unfold kD BM.cut
   rw[<-J];simp only[lk,cm];rfl
 ):G:=z
open Ka in
theorem eX.Rq {X X':qd} (h:eX C Ls aK) (R:fB X Ls aK) {j:Nat} (hr:C.s0.l[cj 0 C.s0.l p]?=some (p,n)) (hL:Ls[n]?=some L) (hi:L[j]?=some i) (hq:(aK i).aw<=aw) 
  (hC:(L.eraseIdx j≠[]/\C'=dK.kH {C with X:=X'} (aK i).id)\/(L.eraseIdx j=[]/\∃Ap cp,C'=dK.Nn {C with X:=X'} (aK i).id (cj 0 C.s0.l p) n Ap cp)):
  eX C' (Ls.set n (L.eraseIdx j)) aK/\kD C' (Ls.set n (L.eraseIdx j)) aK=(kD C Ls aK).cut (aK i).id aw:=VN
namespace Kb
abbrev xH:=@eX.VD
abbrev xI:=@cZ.oV
abbrev BH:=@eX.VC
end Kb
open Kb in
theorem eX.XK (h:eX C Ls aK) (hr:(p,n)∈C.s1.l) (hL:Ls[n]?=some L) (hi:i∈L):
  (∀r∈C.s1.l,∀M,Ls[r.2]?=some M->∀x∈M,(aK x).id=(aK i).id->x=i/\r=(p,n))/\(∀r∈C.s0.l,∀M,Ls[r.2]?=some M->∀x∈M,(aK x).id≠(aK i).id):=VJ
namespace Kb
abbrev xJ:=@eX.XK
abbrev fh:=@dK.s1
abbrev rk:=@cZ.oy
abbrev ll:=@dK.s0
abbrev rm:=@cZ.ox
abbrev ui:=@eX.KU
abbrev xK:=@eX.yB
end Kb
open Kb in
theorem eX.Uf (X':qd) (h:eX C Ls aK) (hr:(p,n)∈C.s1.l) (hL:Ls[n]?=some L) (hi:i∈L) (hq:aw<(aK i).aw):
  eX {C with X:=X'} Ls (fun x=>if x=i then {aK i with aw:=(aK i).aw - aw} else aK x)/\kD {C with X:=X'} Ls (fun x=>if x=i then {aK i with aw:=(aK i).aw - aw} else aK x)=(kD C Ls aK).cut (aK i).id aw:=VM
namespace Kb
abbrev Ev {α:Type} [OfNat α (nat_lit 1)]:α:=OfNat.ofNat (nat_lit 1)
abbrev Ew:=@cZ.OO
abbrev Ex:=@cZ.Rs
abbrev Ey:=@cZ.Rt
end Kb
open Kb in
theorem eX.Rs {X X':qd} (h:eX C Ls aK) (R:fB X Ls aK) {j:Nat} (hr:C.s1.l[cj 1 C.s1.l p]?=some (p,n)) (hL:Ls[n]?=some L) (hi:L[j]?=some i) (hq:(aK i).aw<=aw) 
  (hC:(L.eraseIdx j≠[]/\C'=dK.kI {C with X:=X'} (aK i).id)\/(L.eraseIdx j=[]/\∃Ap cp,C'=dK.Np {C with X:=X'} (aK i).id (cj 1 C.s1.l p) n Ap cp)):
  eX C' (Ls.set n (L.eraseIdx j)) aK/\kD C' (Ls.set n (L.eraseIdx j)) aK=(kD C Ls aK).cut (aK i).id aw:=VN
def RA (Ls:List (List Nat)) (q:Nat):List Nat:=(Ls[q]?).getD []
theorem OV (Ls:List (List Nat)):(List.range Ls.length).map (RA Ls)=Ls:=by
 apply fA;intro j;rw[bo]
 by_cases D:j<Ls.length
 ·rw[rS D]
  simp[RA,D]
 ·rw[cO iW,cO ae];rfl
theorem RB (Ls:List (List Nat)):(List.range Ls.length).flatMap (RA Ls)=Ls.flatten:=by
 rw[List.flatMap_def,OV]
theorem BJ (Ls:List (List Nat)) (aK:Nat->dn) (l:List (Int×Nat)):gY (dB (dL Ls aK) l)=((l.map (·.2)).flatMap (RA Ls)).map aK:=by
 unfold gY dB
 induction l with
 |nil=>rfl
 |cons r l D=>
  simp only[aW,bj,cx] at D⊢;rw[D];rfl
theorem RC (h:∀q∈sp,Ls[q]?=some []):sp.flatMap (RA Ls)=[]:=by
 rw[List.flatMap_eq_nil_iff];intro q hq;unfold RA;rw[h q hq];rfl
def Ez (C:dK) (Ls:List (List Nat)):List Nat:=((C.s0.l.map (·.2))++(C.s1.l.map (·.2))).flatMap (RA Ls)
theorem eX.yD (h:eX C Ls aK):(Ez C Ls).Perm Ls.flatten:=by
 have D:=h.core.perm.flatMap_right (RA Ls);rw[RB,rR,RC h.core.dead,fe] at D;exact D
theorem vk (C:dK) (Ls:List (List Nat)) (aK:Nat->dn):(kD C Ls aK).I=(Ez C Ls).map aK:=by
 unfold BM.I kD Ez;rw[BJ,BJ,rR,cx]
theorem eX.count (h:eX C Ls aK):C.n=(kD C Ls aK).I.length:=by
 rw[vk,br,h.yD.length_eq,Xh];exact h.core.cnt
theorem OW {l:List Nat} (h:∀i j x:Nat,l[i]?=some x->l[j]?=some x->i=j):l.Nodup:=by
 unfold List.Nodup;rw[nz];intro i j hi D I e;have:=h i j l[j] (by rw[aj hi,e]) (aj D);omega
theorem BK:∀{Ls:List (List Nat)},(∀(n:Nat) (L:List Nat) (j D:Nat) (L':List Nat) (I i:Nat),Ls[n]?=some L->L[j]?=some i->Ls[D]?=some L'->L'[I]?=some i->n=D/\j=I)->Ls.flatten.Nodup
 |[],_=>bT
 |L::Ls,h=>by
  rw[List.flatten_cons,dw];refine⟨OW fun i j x hi J=>(h 0 L i 0 L j x rfl hi rfl J).2,BK fun n M j D M' I i h1 h2 h3 h4=>?_,fun x hx y hy e=>?_⟩
  ·obtain⟨h5,h6⟩:=h (n+1) M j (D+1) M' I i (by simpa using h1) h2 (by simpa using h3) h4
   exact⟨ae,h6⟩
  ·subst e
   obtain⟨M,hM,O⟩:=Kc.1 hy;obtain⟨n,hn⟩:=aG hM;obtain⟨j,J⟩:=aG O;obtain⟨i,hi⟩:=aG hx;have:=(h 0 L i (n+1) M j x rfl hi (by simpa using hn) J).1;omega
theorem Ug {q:Nat} (h:i∈RA Ls q):∃L,Ls[q]?=some L/\i∈L:=by
 unfold RA at h
 cases D:Ls[q]? with
 |none=>rw[D] at h;cases h
 |some L=>rw[D] at h;exact⟨L,rfl,h⟩
theorem eX.live (h:eX C Ls aK) (hi:i∈Ez C Ls):dZ (aK i).id/\∃s p,C.f (aK i).id=some (cR s p i):=by
 unfold Ez at hi;obtain⟨q,hq,I⟩:=dD.1 hi;obtain⟨L,J,D⟩:=Ug I;rcases aJ.1 hq with hq|hq
 ·obtain⟨r,hr,rfl⟩:=aV.1 hq
  have:=h.VC hr J D;exact⟨this.2,_,_,this.1⟩
 ·obtain⟨r,hr,rfl⟩:=aV.1 hq
  have:=h.VD hr J D;exact⟨this.2,_,_,this.1⟩
structure EE (M:BM):Prop where
 nd:(M.I.map (·.id)).Nodup
 ok:∀e∈M.I,1≤e.aw∧e.aw≤1000000∧dZ e.id
 XL:∀r∈M.s0,r.2≠[]
 Ol:∀r∈M.s1,r.2≠[]
 oU:M.s0.Pairwise (fun a b=>bz 0 a.1 b.1=true)
 oV:M.s1.Pairwise (fun a b=>bz 1 a.1 b.1=true)
 cnt:M.I.length≤250
theorem zk (h:l.Pairwise (fun a b=>bz k a.1 b.1=true)):(dB v l).Pairwise (fun a b=>bz k a.1 b.1=true):=by
 unfold dB;rw[vF];exact h
theorem eX.ok (h:eX C Ls aK) (R:fB C.X Ls aK):EE (kD C Ls aK):=by
 have J:(Ez C Ls).Nodup:=h.yD.nodup_iff.2 (BK R.inj);refine⟨?_,fun e he=>?_,fun r hr=>?_,fun r hr=>?_,zk h.core.oU,zk h.core.oV,?_⟩
 ·rw[vk,di]
  unfold List.Nodup;rw[vF];refine List.Pairwise.imp_of_mem (fun {i j} hi hj O=>?_) J;intro e;obtain⟨_,s,p,D⟩:=h.live hi;obtain⟨_,s',p',h2⟩:=h.live hj;have e':(aK i).id=(aK j).id:=e;rw[e',h2] at D;injection D with D;exact O (mF D).2.2.symm
 ·rw[vk] at he
  obtain⟨i,hi,rfl⟩:=aV.1 he;obtain⟨L,I,ax⟩:=Kc.1 (h.yD.mem_iff.1 hi);obtain⟨n,hn⟩:=aG I;have:=R.qb n L i hn ax;exact⟨this.1,this.2,(h.live hi).1⟩
 ·obtain⟨x,hx,rfl⟩:=iH hr
  obtain⟨L,I,D⟩:=h.core.ox x hx;exact pA I fun e=>D e
 ·obtain⟨x,hx,rfl⟩:=iH hr
  obtain⟨L,I,D⟩:=h.core.oy x hx;exact pA I fun e=>D e
 ·rw[<-h.count,h.core.cnt]
  have:=R.fr;have:=R.sz;have:=R.fn;omega
def cz (w:World) (F:Nat→Prop) (b:Nat) (M:BM):Prop:=
 ∃C Ls aK,bS w b C∧fB C.X Ls aK∧eX C Ls aK∧Ls.length≤250∧kD C Ls aK=M∧∀j,ik b C j→F j
theorem cz.ok (h:cz w F b M):EE M:=by
 obtain⟨C,Ls,aK,J,D,I,O,rfl,h6⟩:=h;exact I.ok D
theorem cz.same (h:cz w F b M) (O:∀k,k<w.heap.size->F k->w'.heap[k]?=w.heap[k]?):cz w' F b M:=by
 obtain⟨C,Ls,aK,D,h2,h3,h4,h5,I⟩:=h;exact⟨C,Ls,aK,D.same fun k J=>O k (D.lt k J) (I k J),h2,h3,h4,h5,I⟩
theorem cz.below (h:cz w F b M) (D:Bz w w'):cz w' F b M:=h.same fun k I _=>D.block k I
theorem cz.lv {G:Nat->Prop} (h:cz w F b M) (D:Lv G w w') (I:∀k,F k->¬G k):cz w' F b M:=h.same fun k J hF=>D.block k J (I k hF)
theorem cz.mono {G:Nat->Prop} (h:cz w F b M) (J:∀k,F k->k<w.heap.size->G k):cz w G b M:=by
 obtain⟨C,Ls,aK,D,O,h3,h4,h5,h6⟩:=h;exact⟨C,Ls,aK,D,O,h3,h4,h5,fun j I=>J j (h6 j I) (D.lt j I)⟩
def grow (F:Nat→Prop) (w w':World) (j:Nat):Prop:=F j∨(w.heap.size≤j∧j<w'.heap.size)
def qO (w w':World) (j:Nat):Prop:=w.heap.size≤j∧j<w'.heap.size
def mq (L:List dn):Int:=(L.map (·.aw)).sum
theorem xL (aK:Nat->dn) (L:List Nat):kO aK L=mq (L.map aK):=by
 unfold kO mq;rw[di];rfl
theorem Gh:∀{L:List dn},(∀e∈L,1<=e.aw/\e.aw<=1000000)->(L.length:Int)<=mq L/\mq L<=1000000*L.length
 |[],_=>by simp[mq]
 |x::L,h=>by
  have D:=h x bT;have:=Gh (L:=L) fun i hi=>h i (by simp[hi]);simp[mq] at this⊢;omega
def vH (r:iQ):mE:=⟨r.1,mq r.2,r.2.length⟩
theorem eX.RD (h:eX C Ls aK) (hr:r∈(kD C Ls aK).s0) (he:e∈r.2):
  ∃(n:Nat) (L:List Nat) (j i:Nat),(r.1,n)∈C.s0.l/\C.s0.l[cj 0 C.s0.l r.1]?=some (r.1,n)/\Ls[n]?=some L/\L[j]?=some i/\aK i=e/\r.2=L.map aK/\C.f e.id=some (cR 1 r.1 i)/\dZ e.id:=by
 obtain⟨x,hx,rfl⟩:=iH hr;obtain⟨L,i,D,hi,rfl⟩:=lj he;obtain⟨j,J⟩:=aG hi;have I:=h.VC hx D hi;obtain⟨a,ha⟩:=aG hx;refine⟨x.2,L,j,i,hx,?_,D,J,rfl,ft D,I.1,I.2⟩;show C.s0.l[cj 0 C.s0.l x.1]?=some x;rw[jy h.core.oU ha];exact ha
theorem eX.XM (h:eX C Ls aK) (hr:r∈(kD C Ls aK).s0):
  ∃(n:Nat) (L:List Nat),C.s0.l[cj 0 C.s0.l r.1]?=some (r.1,n)/\Ls[n]?=some L/\r.2=L.map aK:=by
 obtain⟨x,hx,rfl⟩:=iH hr;obtain⟨L,D,_⟩:=h.core.ox x hx;obtain⟨a,ha⟩:=aG hx;refine⟨x.2,L,?_,D,ft D⟩;show C.s0.l[cj 0 C.s0.l x.1]?=some x;rw[jy h.core.oU ha];exact ha
theorem eX.RE (h:eX C Ls aK) (hr:r∈(kD C Ls aK).s1) (he:e∈r.2):
  ∃(n:Nat) (L:List Nat) (j i:Nat),(r.1,n)∈C.s1.l/\C.s1.l[cj 1 C.s1.l r.1]?=some (r.1,n)/\Ls[n]?=some L/\L[j]?=some i/\aK i=e/\r.2=L.map aK/\C.f e.id=some (cR 2 r.1 i)/\dZ e.id:=by
 obtain⟨x,hx,rfl⟩:=iH hr;obtain⟨L,i,D,hi,rfl⟩:=lj he;obtain⟨j,J⟩:=aG hi;have I:=h.VD hx D hi;obtain⟨a,ha⟩:=aG hx;refine⟨x.2,L,j,i,hx,?_,D,J,rfl,ft D,I.1,I.2⟩;show C.s1.l[cj 1 C.s1.l x.1]?=some x;rw[jy h.core.oV ha];exact ha
theorem eX.XN (h:eX C Ls aK) (hr:r∈(kD C Ls aK).s1):
  ∃(n:Nat) (L:List Nat),C.s1.l[cj 1 C.s1.l r.1]?=some (r.1,n)/\Ls[n]?=some L/\r.2=L.map aK:=by
 obtain⟨x,hx,rfl⟩:=iH hr;obtain⟨L,D,_⟩:=h.core.oy x hx;obtain⟨a,ha⟩:=aG hx;refine⟨x.2,L,?_,D,ft D⟩;show C.s1.l[cj 1 C.s1.l x.1]?=some x;rw[jy h.core.oV ha];exact ha
theorem eX.known (h:eX C Ls aK) (J:∀e∈(kD C Ls aK).I,e.id≠id):C.f id=none:=by
 cases hf:C.f id with
 |none=>rfl
 |some v=>
  obtain⟨p,m,i,L,O,h2,h3,D⟩:=h.core.all id v hf;exfalso;refine J (aK i) ?_ h3;rw[vk];refine aV.2 ⟨i,?_,rfl⟩;refine dD.2 ⟨m,?_,by unfold RA;rw[O];exact h2⟩;rcases D with⟨D,_⟩|⟨D,_⟩
  ·exact aJ.2 (.inl (aV.2 ⟨_,D,rfl⟩))
  ·exact aJ.2 (.inr (aV.2 ⟨_,D,rfl⟩))
theorem OX (hr:r∈M.s0) (he:e∈r.2):e∈M.I:=aJ.2 (.inl (dD.2 ⟨r,hr,he⟩))
theorem OY (hr:r∈M.s1) (he:e∈r.2):e∈M.I:=aJ.2 (.inr (dD.2 ⟨r,hr,he⟩))
theorem bS.bound {w:World} {b:Nat} (R:fB C.X Ls aK) (I:eX C Ls aK) (D:Ls.length<=250):C.X.H.length<900000/\C.s0.l.length<100000/\C.s1.l.length<100000/\C.spare.length<90000:=by
 have J:=I.core.lens;have O:=R.ql;omega
abbrev kJ:=Nat→Nat→Option (Int×Int)
structure Qt where
 ag:Int
 aw:Int
 i0:Nat
 k0:Nat
 i1:Nat
 k1:Nat
def xe (tp:kJ) (a ka b kb:Nat) (less:Bool):Option Qt:=
 match tp a ka,tp b kb with
 |some x,some y=>some ⟨if less=true then y.1 - x.1 else x.1+y.1,min x.2 y.2,a,ka,b,kb⟩
 |_,_=>none
def rp (q:Qt):Qt:={q with i0:=q.i1,k0:=q.k1,i1:=q.i0,k1:=q.k0}
def mG (n:Nat) (tp:kJ) (x k:Nat):List Qt:=
 if x<n then ((List.range' (x+1) (n - 1 - x)).filterMap fun j=>xe tp (fv n x j) k j k false)++((List.range x).filterMap fun i=>xe tp (fv n i x) (1 - k) i k true)
 else ((xe tp (cy n x).2 (1 - k) (cy n x).1 k true).map rp).toList
def iq (P:PD) (tp:kJ) (x k:Nat):List Qt:=(mG P.n tp x k).filter fun q=>P.fy x q.ag==0
def nF (k:Nat):List Qt→Option Qt
 |[]=>none
 |q::l=>some ((q::l).foldl (fun b q=>if bz k q.ag b.ag=true then q else b) q)
abbrev Sm:=List BM
def yG (M:BM) (k:Nat):Option (Int×Int):=match M.side k with|[]=>none|r::_=>some (r.1,mq r.2)
def lU (S:Sm):kJ:=fun x k=>match S[x]? with|some M=>yG M k|none=>none
def jZ (P:PD) (S:Sm) (x k:Nat):Option (Int×Int×Option Qt):=
 match lU S x k,nF k (iq P (lU S) x k) with
 |some r,some q=>if bz k q.ag r.1=true then some (q.ag,q.aw,some q) else some (r.1,r.2,none)
 |some r,none=>some (r.1,r.2,none)
 |none,some q=>some (q.ag,q.aw,some q)
 |none,none=>none
structure fG where
 id:Int
 inst:Nat
 k:Nat
 ag:Int
 aw:Int
 left:Int
structure jz where
 ag:Int
 aw:Int
 imp:Bool
 U:List fG
def dC (x k:Nat) (p:Int):List dn→List Int→List fG
 |e::es,c::cs=>if 0<c then ⟨e.id,x,k,p,c,e.aw - c⟩::dC x k p es cs else dC x k p es cs
 |_,_=>[]
def ja:BM→List dn→List Int→BM
 |M,e::es,c::cs=>ja (if 0<c then M.cut e.id c else M) es cs
 |M,_,_=>M
def mA (P:PD) (k:Nat) (r:iQ) (q:Int):List Int:=kg P.rule P.top P.least P.part (r.2.map (kB ((k:Int)+1) r.1)) q
def bM (P:PD) (S:Sm) (x k:Nat) (q:Int):Sm×List fG:=
 match S[x]? with
 |none=>(S,[])
 |some M=>match M.side k with
  |[]=>(S,[])
  |r::_=>(S.set x (ja M r.2 (mA P k r q)),dC x k r.1 r.2 (mA P k r q))
def lp (k:Nat) (ag x:Int):Bool:=if k=0 then decide (x≤ag) else decide (ag≤x)
def dA (P:PD) (S:Sm) (x k:Nat) (im:Option Qt) (t:Int):Sm×List fG:=
 match im with
 |none=>bM P S x k t
 |some q=>((bM P (bM P S q.i0 q.k0 t).1 q.i1 q.k1 t).1,(bM P S q.i0 q.k0 t).2++(bM P (bM P S q.i0 q.k0 t).1 q.i1 q.k1 t).2)
def dV (P:PD):Nat→Sm→Nat→Nat→Int→Int→Sm×List jz×Int
 |0,S,_,_,_,aw=>(S,[],aw)
 |f+1,S,x,k,ag,aw=>
  if aw≤0 then (S,[],aw) else
  match jZ P S x (1 - k) with
  |none=>(S,[],aw)
  |some (p,q,im)=>
   if lp k ag p=true then
    ((dV P f (dA P S x (1 - k) im (min aw q)).1 x k ag (aw - min aw q)).1,
      ⟨p,min aw q,im.isSome,(dA P S x (1 - k) im (min aw q)).2⟩::(dV P f (dA P S x (1 - k) im (min aw q)).1 x k ag (aw - min aw q)).2.1,
      (dV P f (dA P S x (1 - k) im (min aw q)).1 x k ag (aw - min aw q)).2.2)
   else (S,[],aw)
def ng (P:PD) (S:Sm) (x k:Nat) (ag aw:Int):Int:=aw - (dV P aw.toNat S x k ag aw).2.2
def lV (P:PD) (S:Sm) (x k:Nat) (ag aw:Int):Bool:=
 (dV P aw.toNat S x k ag aw).2.2 !=0 && (mG P.n (lU (dV P aw.toNat S x k ag aw).1) x (1 - k)).any fun q=>lp k ag q.ag
theorem Cn {f:iQ->Nat}:∀{l:List iQ},(∀r∈l,r.2≠[])->l.length<=(gY l).length
 |[],_=>aB _
 |r::l,h=>by
  have D:=Cn (f:=f) (l:=l) fun x hx=>h x (by simp[hx]);have I:=h r bT;have J:1<=r.2.length:=by cases hr:r.2 with|nil=>exact absurd hr I|cons a b=>simp
  unfold gY at D⊢;simp only[bj,aC,bI];omega
theorem eX.lens (h:eX C Ls aK) (R:fB C.X Ls aK):C.s0.l.length+C.s1.l.length<=(kD C Ls aK).I.length:=by
 have K:=h.ok R;have D:=Cn (f:=fun _=>0) K.XL;have J:=Cn (f:=fun _=>0) K.Ol;have O:(kD C Ls aK).s0.length=C.s0.l.length:=br ..;have e1:(kD C Ls aK).s1.length=C.s1.l.length:=br ..;unfold BM.I;rw[aC];omega
theorem Pk (b:Nat) (M:BM) (F:Nat->Prop) (id p aw:Int) (w:World) (h:cz w F b M) (D:dZ id) (J:∀e∈M.I,e.id≠id) (hn:M.I.length<250) (hq:1<=aw/\aw<=1000000):
  Wz 147 #[Pz b,Iz id,Iz 1,Iz p,Iz aw] w fun e w'=>e= .returned (Iz 0)/\cz w' (grow F w w') b (M.add 0 id p aw)/\Lv F w w':=by
 obtain⟨C,Ls,aK,h1,R,I,hl,rfl,hF⟩:=h;obtain⟨B1,B2,B3,B4⟩:=bS.bound (w:=w) (b:=b) R I hl;have ax:0<C.X.free:=by
  have:=R.fr;have:=R.sz;have:=I.core.cnt;have:=I.count;omega
 refine(OK b C Ls aK id p aw w h1 R I.Wn D (I.known J) (by rw[I.count];exact hn) ax B1 (by first|exact B2|exact B3) I.core.dead (fun r hr=>by obtain⟨L,hL,_⟩:=I.core.ox r hr;exact⟨L,hL⟩) hq).mono ?_;rintro e w'⟨rfl,⟨C1,C2,C3,ent1,q,Ls2,L,i,X3,l1,l2,l3,l4,l5,rfl,l7,l8⟩,lv⟩;obtain⟨I',e'⟩:=I.Wo X3 (aw:=aw) (I.known J) D l1 l2 l3 l4;refine⟨rfl,⟨_,_,_,l7,l5,I',?_,e',fun j hj=>?_⟩,lv.mono fun k hk=> .inl (hF k hk)⟩
 ·rw[jn]
  have hs:=(I.Bj l1).2.1.2.2.1;have hlen:=I.lens R;have ay:=I.core.lens;rcases l2 with⟨_,_,rfl⟩|⟨_,A,c,⟨sp,_,rfl,_⟩|⟨O,_,rfl,_⟩⟩
  ·exact hl
  ·exact hl
  ·rw[hs] at O
   rw[O,lZ] at ay;simp;omega
 ·rcases l8 j hj with h|h
  ·exact .inl (hF j h)
  ·exact .inr ⟨h,l7.lt j hj⟩
theorem Lm (b:Nat) (M:BM) (F:Nat->Prop) (r:iQ) (x:dn) (aw:Int) (w:World) (h:cz w F b M) (hr:r∈M.s0) (hx:x∈r.2) (hq:aw<1):
  Wz 111 #[Pz b,Iz x.id,Iz aw] w fun e w'=>e= .returned (Iz 24)/\Bz w w':=by
 obtain⟨C,Ls,aK,D,R,I,hl,rfl,hF⟩:=h;obtain⟨n,L,j,i,k1,k2,J,k4,rfl,k6,O,k8⟩:=I.RD hr hx;exact IQ b C Ls aK _ r.1 aw i n j L w D R k8 O J k4 hq
theorem Ln (b:Nat) (M:BM) (F:Nat->Prop) (r:iQ) (x:dn) (aw:Int) (w:World) (h:cz w F b M) (hr:r∈M.s0) (hx:x∈r.2) (hq:1<=aw/\aw<=x.aw):
  Wz 111 #[Pz b,Iz x.id,Iz aw] w fun e w'=>e= .returned (Iz 0)/\cz w' (grow F w w') b (M.cut x.id aw)/\Lv F w w':=by
 obtain⟨C,Ls,aK,h1,R,I,O,rfl,hF⟩:=h;obtain⟨B1,B2,B3,B4⟩:=bS.bound (w:=w) (b:=b) R I O;obtain⟨n,L,j,i,k1,k2,J,k4,rfl,k6,k7,k8⟩:=I.RD hr hx
 by_cases D:aw<(aK i).aw
 ·refine(IU b C Ls aK _ r.1 aw i n j L w h1 R k8 k7 J k4 rfl ⟨hq.1,D⟩).mono ?_
  rintro e w'⟨rfl,⟨X',l1,l2⟩,lv⟩;obtain⟨I',e'⟩:=I.Ue X' (aw:=aw) k1 J (bF k4) D;exact⟨rfl,⟨_,_,_,l1,l2,I',O,e',fun j hj=> .inl (hF j hj)⟩,lv.mono fun k hk=> .inl (hF k hk)⟩
 ·refine(IV b C Ls aK _ r.1 aw i n j L w h1 R k8 k7 J k4 k2 B4 ⟨hq.1,ae⟩).mono ?_
  rintro e w'⟨rfl,⟨X',C',l1,l2,l3,l4⟩,lv⟩;obtain⟨I',e'⟩:=I.Rq (aw:=aw) R k2 J k4 ae l4;refine⟨rfl,⟨_,_,_,l1,?_,I',by rw[jn];exact O,e',fun a ha=>?_⟩,lv.mono fun k hk=> .inl (hF k hk)⟩
  ·rcases l4 with⟨_,rfl⟩|⟨_,Ap,cp,rfl⟩
   ·exact l3
   ·exact l3
  ·rcases l2 a ha with h|h
   ·exact .inl (hF a h)
   ·exact .inr ⟨h,l1.lt a ha⟩
theorem Lo (b:Nat) (M:BM) (F:Nat->Prop) (r:iQ) (x:dn) (w:World) (h:cz w F b M) (hr:r∈M.s0) (hx:x∈r.2):
  Wz 71 #[Pz b,Iz x.id] w fun e w'=>e= .returned (.tuple #[.agg #[Iz x.id,Iz 1,Iz r.1,Iz x.aw, .bool x.top], .bool true])/\Bz w w':=by
 obtain⟨C,Ls,aK,D,R,I,hl,rfl,hF⟩:=h;obtain⟨n,L,j,i,k1,k2,J,k4,rfl,k6,O,k8⟩:=I.RD hr hx;exact IP b C Ls aK 1 _ r.1 i n j L w D R k8 O J k4
theorem Lp (b:Nat) (M:BM) (F:Nat->Prop) (r:iQ) (l:List iQ) (w:World) (h:cz w F b M) (hs:M.s0=r::l):
  Wz 97 #[Pz b,Iz 1] w fun e w'=>e= .returned (.tuple #[.agg #[Iz r.1,Iz (mq r.2),Iz r.2.length], .bool true])/\Bz w w':=by
 obtain⟨C,Ls,aK,O,R,I,hl,rfl,hF⟩:=h;have D:dB (dL Ls aK) C.s0.l=r::l:=hs
 cases hc:C.s0.l with
 |nil=>rw[hc] at D;cases D
 |cons y t=>
  rw[hc] at D;have e0:r=(y.1,dL Ls aK y.2):=((oe ..).mp D).1.symm;subst e0;obtain⟨L,J,_⟩:=I.core.ox y (by rw[hc];simp);refine(KL b C y.1 y.2 t _ w O hc (R.qs _ _ J)).mono ?_;rintro e w'⟨rfl,b1⟩;refine⟨?_,b1⟩;simp only[ft J,xL,br]
theorem zG (b:Nat) (M:BM) (F:Nat->Prop) (w:World) (h:cz w F b M) (hs:M.s0=[]):
  Wz 97 #[Pz b,Iz 1] w fun e w'=>e= .returned (.tuple #[.agg #[Iz 0,Iz 0,Iz 0], .bool false])/\Bz w w':=by
 obtain⟨C,Ls,aK,D,R,I,J,rfl,hF⟩:=h;exact Ih b C w D (by simpa[kD,dB] using hs)
theorem R6 (b:Nat) (M:BM) (F:Nat->Prop) (r:iQ) (w:World) (h:cz w F b M) (hr:r∈M.s0):
  Wz 141 #[Pz b,Iz 1,Iz r.1] w fun e w'=> ∃A c,e= .returned (.slice A r.2.length c)/\w'.ownsRow w.heap.size 81 5 (.slice A r.2.length c) r.2.length (flat (r.2.map (kB 1 r.1)))/\Bz w w':=by
 obtain⟨C,Ls,aK,D,R,I,O,rfl,hF⟩:=h;obtain⟨n,L,k1,k2,J⟩:=I.XM hr;have:=Rj b C Ls aK r.1 n L w D R k2 k1;rw[J,br,di];exact this
theorem Gx (b:Nat) (M:BM) (F:Nat->Prop) (w:World) (h:cz w F b M):
  Wz 99 #[Pz b,Iz 1] w fun e w'=> ∃A c,e= .returned (.slice A M.s0.length c)/\w'.ownsRow w.heap.size 75 3 (.slice A M.s0.length c) M.s0.length (jO (M.s0.map vH))/\Bz w w':=by
 obtain⟨C,Ls,aK,J,R,I,O,rfl,hF⟩:=h;have e1:(kD C Ls aK).s0.length=C.s0.l.length:=br ..;have e2:(kD C Ls aK).s0.map vH=C.s0.l.map (tS C.X):=by
  show(dB (dL Ls aK) C.s0.l).map vH=_;unfold dB;rw[di];refine cJ fun r hr=>?_;obtain⟨L,D,_⟩:=I.core.ox r hr;rw[KN (R.qs _ _ D)];show vH (r.1,dL Ls aK r.2)=_;simp only[vH,ft D,xL,br]
 rw[e1,e2];exact Gb b C w J fun r hr=>by
  obtain⟨L,D,_⟩:=I.core.ox r hr;exact⟨_,R.qs _ _ D⟩
theorem Pm (b:Nat) (M:BM) (F:Nat->Prop) (id p aw:Int) (w:World) (h:cz w F b M) (D:dZ id) (J:∀e∈M.I,e.id≠id) (hn:M.I.length<250) (hq:1<=aw/\aw<=1000000):
  Wz 147 #[Pz b,Iz id,Iz 2,Iz p,Iz aw] w fun e w'=>e= .returned (Iz 0)/\cz w' (grow F w w') b (M.add 1 id p aw)/\Lv F w w':=by
 obtain⟨C,Ls,aK,h1,R,I,hl,rfl,hF⟩:=h;obtain⟨B1,B2,B3,B4⟩:=bS.bound (w:=w) (b:=b) R I hl;have ax:0<C.X.free:=by
  have:=R.fr;have:=R.sz;have:=I.core.cnt;have:=I.count;omega
 refine(OL b C Ls aK id p aw w h1 R I.Wp D (I.known J) (by rw[I.count];exact hn) ax B1 (by first|exact B2|exact B3) I.core.dead (fun r hr=>by obtain⟨L,hL,_⟩:=I.core.oy r hr;exact⟨L,hL⟩) hq).mono ?_;rintro e w'⟨rfl,⟨C1,C2,C3,ent1,q,Ls2,L,i,X3,l1,l2,l3,l4,l5,rfl,l7,l8⟩,lv⟩;obtain⟨I',e'⟩:=I.Wq X3 (aw:=aw) (I.known J) D l1 l2 l3 l4;refine⟨rfl,⟨_,_,_,l7,l5,I',?_,e',fun j hj=>?_⟩,lv.mono fun k hk=> .inl (hF k hk)⟩
 ·rw[jn]
  have hs:=(I.Bk l1).2.1.2.2.1;have hlen:=I.lens R;have ay:=I.core.lens;rcases l2 with⟨_,_,rfl⟩|⟨_,A,c,⟨sp,_,rfl,_⟩|⟨O,_,rfl,_⟩⟩
  ·exact hl
  ·exact hl
  ·rw[hs] at O
   rw[O,lZ] at ay;simp;omega
 ·rcases l8 j hj with h|h
  ·exact .inl (hF j h)
  ·exact .inr ⟨h,l7.lt j hj⟩
theorem Lr (b:Nat) (M:BM) (F:Nat->Prop) (r:iQ) (x:dn) (aw:Int) (w:World) (h:cz w F b M) (hr:r∈M.s1) (hx:x∈r.2) (hq:aw<1):
  Wz 111 #[Pz b,Iz x.id,Iz aw] w fun e w'=>e= .returned (Iz 24)/\Bz w w':=by
 obtain⟨C,Ls,aK,D,R,I,hl,rfl,hF⟩:=h;obtain⟨n,L,j,i,k1,k2,J,k4,rfl,k6,O,k8⟩:=I.RE hr hx;exact IW b C Ls aK _ r.1 aw i n j L w D R k8 O J k4 hq
theorem Lt (b:Nat) (M:BM) (F:Nat->Prop) (r:iQ) (x:dn) (aw:Int) (w:World) (h:cz w F b M) (hr:r∈M.s1) (hx:x∈r.2) (hq:1<=aw/\aw<=x.aw):
  Wz 111 #[Pz b,Iz x.id,Iz aw] w fun e w'=>e= .returned (Iz 0)/\cz w' (grow F w w') b (M.cut x.id aw)/\Lv F w w':=by
 obtain⟨C,Ls,aK,h1,R,I,O,rfl,hF⟩:=h;obtain⟨B1,B2,B3,B4⟩:=bS.bound (w:=w) (b:=b) R I O;obtain⟨n,L,j,i,k1,k2,J,k4,rfl,k6,k7,k8⟩:=I.RE hr hx
 by_cases D:aw<(aK i).aw
 ·refine(IX b C Ls aK _ r.1 aw i n j L w h1 R k8 k7 J k4 rfl ⟨hq.1,D⟩).mono ?_
  rintro e w'⟨rfl,⟨X',l1,l2⟩,lv⟩;obtain⟨I',e'⟩:=I.Uf X' (aw:=aw) k1 J (bF k4) D;exact⟨rfl,⟨_,_,_,l1,l2,I',O,e',fun j hj=> .inl (hF j hj)⟩,lv.mono fun k hk=> .inl (hF k hk)⟩
 ·refine(IY b C Ls aK _ r.1 aw i n j L w h1 R k8 k7 J k4 k2 B4 ⟨hq.1,ae⟩).mono ?_
  rintro e w'⟨rfl,⟨X',C',l1,l2,l3,l4⟩,lv⟩;obtain⟨I',e'⟩:=I.Rs (aw:=aw) R k2 J k4 ae l4;refine⟨rfl,⟨_,_,_,l1,?_,I',by rw[jn];exact O,e',fun a ha=>?_⟩,lv.mono fun k hk=> .inl (hF k hk)⟩
  ·rcases l4 with⟨_,rfl⟩|⟨_,Ap,cp,rfl⟩
   ·exact l3
   ·exact l3
  ·rcases l2 a ha with h|h
   ·exact .inl (hF a h)
   ·exact .inr ⟨h,l1.lt a ha⟩
theorem Lu (b:Nat) (M:BM) (F:Nat->Prop) (r:iQ) (x:dn) (w:World) (h:cz w F b M) (hr:r∈M.s1) (hx:x∈r.2):
  Wz 71 #[Pz b,Iz x.id] w fun e w'=>e= .returned (.tuple #[.agg #[Iz x.id,Iz 2,Iz r.1,Iz x.aw, .bool x.top], .bool true])/\Bz w w':=by
 obtain⟨C,Ls,aK,D,R,I,hl,rfl,hF⟩:=h;obtain⟨n,L,j,i,k1,k2,J,k4,rfl,k6,O,k8⟩:=I.RE hr hx;exact IP b C Ls aK 2 _ r.1 i n j L w D R k8 O J k4
theorem Lx (b:Nat) (M:BM) (F:Nat->Prop) (r:iQ) (l:List iQ) (w:World) (h:cz w F b M) (hs:M.s1=r::l):
  Wz 97 #[Pz b,Iz 2] w fun e w'=>e= .returned (.tuple #[.agg #[Iz r.1,Iz (mq r.2),Iz r.2.length], .bool true])/\Bz w w':=by
 obtain⟨C,Ls,aK,O,R,I,hl,rfl,hF⟩:=h;have D:dB (dL Ls aK) C.s1.l=r::l:=hs
 cases hc:C.s1.l with
 |nil=>rw[hc] at D;cases D
 |cons y t=>
  rw[hc] at D;have e0:r=(y.1,dL Ls aK y.2):=((oe ..).mp D).1.symm;subst e0;obtain⟨L,J,_⟩:=I.core.oy y (by rw[hc];simp);refine(KM b C y.1 y.2 t _ w O hc (R.qs _ _ J)).mono ?_;rintro e w'⟨rfl,b1⟩;refine⟨?_,b1⟩;simp only[ft J,xL,br]
theorem zH (b:Nat) (M:BM) (F:Nat->Prop) (w:World) (h:cz w F b M) (hs:M.s1=[]):
  Wz 97 #[Pz b,Iz 2] w fun e w'=>e= .returned (.tuple #[.agg #[Iz 0,Iz 0,Iz 0], .bool false])/\Bz w w':=by
 obtain⟨C,Ls,aK,D,R,I,J,rfl,hF⟩:=h;exact Ii b C w D (by simpa[kD,dB] using hs)
theorem R7 (b:Nat) (M:BM) (F:Nat->Prop) (r:iQ) (w:World) (h:cz w F b M) (hr:r∈M.s1):
  Wz 141 #[Pz b,Iz 2,Iz r.1] w fun e w'=> ∃A c,e= .returned (.slice A r.2.length c)/\w'.ownsRow w.heap.size 81 5 (.slice A r.2.length c) r.2.length (flat (r.2.map (kB 2 r.1)))/\Bz w w':=by
 obtain⟨C,Ls,aK,D,R,I,O,rfl,hF⟩:=h;obtain⟨n,L,k1,k2,J⟩:=I.XN hr;have:=Rk b C Ls aK r.1 n L w D R k2 k1;rw[J,br,di];exact this
theorem Gy (b:Nat) (M:BM) (F:Nat->Prop) (w:World) (h:cz w F b M):
  Wz 99 #[Pz b,Iz 2] w fun e w'=> ∃A c,e= .returned (.slice A M.s1.length c)/\w'.ownsRow w.heap.size 75 3 (.slice A M.s1.length c) M.s1.length (jO (M.s1.map vH))/\Bz w w':=by
 obtain⟨C,Ls,aK,J,R,I,O,rfl,hF⟩:=h;have e1:(kD C Ls aK).s1.length=C.s1.l.length:=br ..;have e2:(kD C Ls aK).s1.map vH=C.s1.l.map (tS C.X):=by
  show(dB (dL Ls aK) C.s1.l).map vH=_;unfold dB;rw[di];refine cJ fun r hr=>?_;obtain⟨L,D,_⟩:=I.core.oy r hr;rw[KN (R.qs _ _ D)];show vH (r.1,dL Ls aK r.2)=_;simp only[vH,ft D,xL,br]
 rw[e1,e2];exact Gc b C w J fun r hr=>by
  obtain⟨L,D,_⟩:=I.core.oy r hr;exact⟨_,R.qs _ _ D⟩
theorem Pn (b:Nat) (M:BM) (F:Nat->Prop) (id:Int) (w:World) (h:cz w F b M) (D:dZ id) (J:∀e∈M.I,e.id≠id):
  Wz 71 #[Pz b,Iz id] w fun e w'=>e= .returned (.tuple #[.agg #[Iz 0,Iz 0,Iz 0,Iz 0, .bool false], .bool false])/\Bz w w':=by
 obtain⟨C,Ls,aK,O,R,I,hl,rfl,hF⟩:=h;exact OU b C id w O D (I.known J)
theorem mI (D:k<2):k=0\/k=1:=ae
theorem R8 (b:Nat) (M:BM) (F:Nat->Prop) (k:Nat) (s id p aw:Int) (w:World) (h:cz w F b M) (O:k<2) (hs:s=(k:Int)+1) (D:dZ id) (J:∀e∈M.I,e.id≠id) (hn:M.I.length<250) (hq:1<=aw/\aw<=1000000):
  Wz 147 #[Pz b,Iz id,Iz s,Iz p,Iz aw] w fun e w'=>e= .returned (Iz 0)/\cz w' (grow F w w') b (M.add k id p aw)/\Lv F w w':=by
 rcases mI O with rfl|rfl
 ·obtain rfl:s=1:=ae
  exact Pk b M F id p aw w h D J hn hq
 ·obtain rfl:s=2:=ae
  exact Pm b M F id p aw w h D J hn hq
theorem Po (b:Nat) (M:BM) (F:Nat->Prop) (k:Nat) (r:iQ) (x:dn) (id aw:Int) (w:World) (h:cz w F b M) (hr:r∈M.side k) (hx:x∈r.2) (D:x.id=id) (hq:aw<1):
  Wz 111 #[Pz b,Iz id,Iz aw] w fun e w'=>e= .returned (Iz 24)/\Bz w w':=by
 subst D;unfold BM.side at hr
 split at hr
 ·exact Lm b M F r x aw w h hr hx hq
 ·exact Lr b M F r x aw w h hr hx hq
theorem Pp (b:Nat) (M:BM) (F:Nat->Prop) (k:Nat) (r:iQ) (x:dn) (id aw:Int) (w:World) (h:cz w F b M) (hr:r∈M.side k) (hx:x∈r.2) (D:x.id=id) (hq:1<=aw/\aw<=x.aw):
  Wz 111 #[Pz b,Iz id,Iz aw] w fun e w'=>e= .returned (Iz 0)/\cz w' (grow F w w') b (M.cut id aw)/\Lv F w w':=by
 subst D;unfold BM.side at hr
 split at hr
 ·exact Ln b M F r x aw w h hr hx hq
 ·exact Lt b M F r x aw w h hr hx hq
theorem yH (b:Nat) (M:BM) (F:Nat->Prop) (k:Nat) (s:Int) (r:iQ) (x:dn) (id:Int) (w:World) (h:cz w F b M) (I:k<2) (hs:s=(k:Int)+1) (hr:r∈M.side k) (hx:x∈r.2) (D:x.id=id):
  Wz 71 #[Pz b,Iz id] w fun e w'=>e= .returned (.tuple #[.agg #[Iz id,Iz s,Iz r.1,Iz x.aw, .bool x.top], .bool true])/\Bz w w':=by
 subst D;rcases mI I with rfl|rfl
 ·obtain rfl:s=1:=ae
  exact Lo b M F r x w h hr hx
 ·obtain rfl:s=2:=ae
  exact Lu b M F r x w h hr hx
theorem yI (b:Nat) (M:BM) (F:Nat->Prop) (k:Nat) (s:Int) (r:iQ) (l:List iQ) (w:World) (h:cz w F b M) (I:k<2) (hs:s=(k:Int)+1) (D:M.side k=r::l):
  Wz 97 #[Pz b,Iz s] w fun e w'=>e= .returned (.tuple #[.agg #[Iz r.1,Iz (mq r.2),Iz r.2.length], .bool true])/\Bz w w':=by
 rcases mI I with rfl|rfl
 ·obtain rfl:s=1:=ae
  exact Lp b M F r l w h D
 ·obtain rfl:s=2:=ae
  exact Lx b M F r l w h D
theorem uA (b:Nat) (M:BM) (F:Nat->Prop) (k:Nat) (s:Int) (w:World) (h:cz w F b M) (I:k<2) (hs:s=(k:Int)+1) (D:M.side k=[]):
  Wz 97 #[Pz b,Iz s] w fun e w'=>e= .returned (.tuple #[.agg #[Iz 0,Iz 0,Iz 0], .bool false])/\Bz w w':=by
 rcases mI I with rfl|rfl
 ·obtain rfl:s=1:=ae
  exact zG b M F w h D
 ·obtain rfl:s=2:=ae
  exact zH b M F w h D
theorem Uu (b:Nat) (M:BM) (F:Nat->Prop) (k:Nat) (s p:Int) (r:iQ) (w:World) (h:cz w F b M) (D:k<2) (hs:s=(k:Int)+1) (hr:r∈M.side k) (hp:r.1=p):
  Wz 141 #[Pz b,Iz s,Iz p] w fun e w'=> ∃A c,e= .returned (.slice A r.2.length c)/\w'.ownsRow w.heap.size 81 5 (.slice A r.2.length c) r.2.length (flat (r.2.map (kB s p)))/\Bz w w':=by
 subst hp;rcases mI D with rfl|rfl
 ·obtain rfl:s=1:=ae
  exact R6 b M F r w h hr
 ·obtain rfl:s=2:=ae
  exact R7 b M F r w h hr
theorem Jn (b:Nat) (M:BM) (F:Nat->Prop) (k:Nat) (s:Int) (w:World) (h:cz w F b M) (D:k<2) (hs:s=(k:Int)+1):
  Wz 99 #[Pz b,Iz s] w fun e w'=> ∃A c,e= .returned (.slice A (M.side k).length c)/\w'.ownsRow w.heap.size 75 3 (.slice A (M.side k).length c) (M.side k).length (jO ((M.side k).map vH))/\Bz w w':=by
 rcases mI D with rfl|rfl
 ·obtain rfl:s=1:=ae
  exact Gx b M F w h
 ·obtain rfl:s=2:=ae
  exact Gy b M F w h
theorem LH:cZ (fun _=>False) [] [] [] (fun _=>none) 0 [] (fun _=>⟨0,0,false⟩):=
 ⟨bT,fun r hr=>(by cases hr),fun r hr=>(by cases hr),fun r hr=>(by cases hr),List.Pairwise.nil,List.Pairwise.nil,fun r hr=>(by cases hr),fun r hr=>(by cases hr),fun y v h=>(by cases h),rfl⟩
theorem Sd (w:World):Wz 65 #[] w fun e w'=> ∃b,e= .returned (Pz b)/\cz w' (qO w w') b ⟨[],[]⟩/\Bz w w':=by
 go_enter Tryz.func65,Tryz.ntmps65
 go_wp2_with fail;refine(Rc w).mono ?_;rintro e J⟨a,gs,rq,rfl,hA,ax,b1⟩;obtain⟨HA,HF,HB⟩:=fY hA ax b1;clear hA ax b1;have bb:(Instr.makeMap 191 none).run Tryz.prog J= .ok (.map (some J.heap.size)) (J.alloc (.map #[] 0)):=rfl;go_wp2_with fail;go_ret;obtain⟨C,O⟩:=Zn (⟨a,gs,rq,F9 250,⟨none,0,[],0,false⟩,⟨none,0,[],0,false⟩,J.heap.size,fun _=>none,0,none,0,[]⟩:dK);obtain⟨D,e2⟩:=Zn (J.alloc (.map #[] 0));have B2:=Zw e2;have B3:Bz D (D.alloc (.cells C.cells 195)):=au (aa _ _) _;have a2:D.heap.size=J.heap.size+1:=by rw[e2];simp
 have bc:(D.alloc (.cells C.cells 195)).heap.size=D.heap.size+1:=bT;have a5:=HB.h.size;have ay:bS (D.alloc (.cells C.cells 195)) D.heap.size C:=by
  have a6:cY (D.alloc (.cells C.cells 195)) a gs rq (F9 250):=(HA.below B2).below B3;have a7:fR (D.alloc (.cells C.cells 195)) J.heap.size (fun _=>none) 0:=(show fR D J.heap.size (fun _=>none) 0 by rw[e2];exact fR.new J).below B3;subst O;exact⟨heap_alloc_new _ _,a6,aM _ _ _ _,aM _ _ _ _,fun g hg=>by simp[jX.v,Value.ownBlock] at hg,a7,aM _ _ _ _,bT⟩
 have a8:∀j,ik D.heap.size C j->w.heap.size<=j:=by
  subst O;rintro j (rfl|I|I|I|rfl|I)
  ·omega
  ·exact HF j I
  ·simp[jX.v,Value.ownBlock] at I
  ·simp[jX.v,Value.ownBlock] at I
  ·exact a5
  ·simp[Value.ownBlock] at I
 have ba:eX C [] (fun _=>⟨0,0,false⟩):=by
  subst O;exact⟨LH,⟨fun r hr=>(by cases hr),fun h=>(by cases h)⟩,⟨fun r hr=>(by cases hr),fun h=>(by cases h)⟩⟩
 have hX:fB C.X [] (fun _=>⟨0,0,false⟩):=by subst O;exact Rb rfl _
 have hM:kD C [] (fun _=>⟨0,0,false⟩)=⟨[],[]⟩:=by subst O;rfl
 have fin:cz (D.alloc (.cells C.cells 195)) (qO w (D.alloc (.cells C.cells 195))) D.heap.size ⟨[],[]⟩:=⟨C,[],_,ay,hX,ba,bT,hM,fun j I=>⟨a8 j I,ay.lt j I⟩⟩;have a0:=dW (dW HB B2) B3;refine⟨D.heap.size,?_,?_,?_⟩
 ·rw[a2];rfl
 ·subst O;subst e2;exact fin
 ·subst O;subst e2;exact a0
theorem Cq (A:Option Addr) (n c:Nat) (xs:List Value) (w:World) (hn:xs.length=n*1) (O:n<=1000000) (hA:Cells w A xs) (h1:∀u∈xs,u.oneCell'=true) (D:A=none->c=0):
  Wz 75 #[.slice A n c] w fun e w'=>xq w w' 3 1 A n xs e:=by
 rcases A with _|a
 ·obtain⟨rfl,rfl⟩:=xr hA hn ae
  obtain rfl:=D rfl;have D:=Lib.run_eql_slice_nil (P:=Tryz.prog) w 22 3 none 0 0 0 0 Tryz.underlying22
  go_enter Tryz.func75,Tryz.ntmps75
  go_wp2;go_ret;exact⟨none,0,rfl,aM _ _ _ _, .inl rfl,aa _ _⟩
 ·have D:=Lib.run_eql_slice_nil (P:=Tryz.prog) w 22 3 (some a) n c 0 0 Tryz.underlying22
  have HN:=ao hn;clear hn
  go_enter Tryz.func75,Tryz.ntmps75
  go_wp2_with (at_builtin
               refine lK sH (cI (base:=w.heap.size) w #[] 0 (af _) (aB _) rfl) (news:=xs) rfl _ _ rfl rfl rfl HN (hA.alloc _) h1 ae bT n xs ae bT ?_;intro A' c' w2 J)
  go_ret;refine⟨A',c',rfl,J.own, .inr ?_,J.below _ _ (af _) (au (aa _ _) _)⟩;rcases J.jV with O|O
  ·rcases J.own.2 with⟨I,_⟩|⟨g,cap,cur,hv,hb,_⟩
   ·injection I with I;subst I;simp[Value.ownBlock] at O
   ·injection hv with hv;exact⟨g,hv,hb⟩
  ·rcases J.own.2 with⟨I,_⟩|⟨g,cap,cur,hv,hb,_⟩
   ·injection I with I;subst I;simp[Value.ownBlock] at O
   ·injection hv with hv;exact⟨g,hv,hb⟩
theorem Se (l:List Nat):∀u∈nE l,u.oneCell'=true:=by
 intro u hu;obtain⟨n,_,rfl⟩:=aV.1 hu;rfl
def Y1 (w w1 wr:World) (g i:Nat) (C:dK):Prop:=
 ∃(A0:Option Addr) (c0:Nat) (A1:Option Addr) (c1:Nat),aE wr g 195 (dK.cells {C with s0:={C.s0 with A:=A0,c:=c0},s1:={C.s1 with A:=A1,c:=c1}})∧
  cY wr C.a C.gs C.rq C.X∧(∀k,qA C.a C.gs C.rq k→w1.heap.size≤k)∧fR wr C.mb C.f C.n∧w1.heap.size≤C.mb∧wr.ownsRow w1.heap.size 3 1 (.slice C.Ap C.spare.length C.cp) C.spare.length (nE C.spare)∧
  (1≤i→wr.ownsRow w1.heap.size 227 2 (.slice A0 C.s0.l.length c0) C.s0.l.length (cB C.s0.l))∧
  (2≤i→wr.ownsRow w1.heap.size 227 2 (.slice A1 C.s1.l.length c1) C.s1.l.length (cB C.s1.l)∧∀h,(Value.slice A0 C.s0.l.length c0).ownBlock=some h→(Value.slice A1 C.s1.l.length c1).ownBlock≠some h)∧Bz w wr
theorem Pv (b:Nat) (C:dK) (w:World) (h:bS w b C):Wz 91 #[Pz b] w fun e w'=> ∃(b':Nat) (C':dK),e= .returned (Pz b')/\bS w' b' C'/\(∀j,ik b' C' j->w.heap.size<=j)/\(C'.X=C.X/\C'.s0.l=C.s0.l/\C'.s1.l=C.s1.l/\C'.s0.top=C.s0.top/\C'.s1.top=C.s1.top/\C'.s0.has=C.s0.has/\C'.s1.has=C.s1.has/\C'.f=C.f/\C'.n=C.n/\C'.spare=C.spare)/\Bz w w':=by
 have c0:Cz w b 0 (Pz C.a):=h.D.cell 0;have c1:Cz w b 1 (.slice C.s0.A C.s0.l.length C.s0.c):=h.D.cell 1;have c2:Cz w b 2 (.slice C.s1.A C.s1.l.length C.s1.c):=h.D.cell 2;have c3:Cz w b 3 (.map (some C.mb)):=h.D.cell 3;have c4:Cz w b 4 (Iz C.s0.top):=h.D.cell 4;have c5:Cz w b 5 (Iz C.s1.top):=h.D.cell 5;have c6:Cz w b 6 (.slice C.Ap C.spare.length C.cp):=h.D.cell 6;have c7:Cz w b 7 (.bool C.s0.has):=h.D.cell 7;have c8:Cz w b 8 (.bool C.s1.has):=h.D.cell 8;have ax:b<w.heap.size:=h.D.lt;obtain⟨w1,bp⟩:=Zn (w.alloc (.cells C.cells 195));obtain⟨g,eg⟩:=Zn w.heap.size;have B1:=Zw bp;have G1:aE w1 g 195 C.cells:=by rw[bp,eg];exact heap_alloc_new _ _
 have H1:=h.below B1;obtain⟨M,eM⟩:=Zn C.spare.length;rw[<-eM] at c6;have cv:Cz w b 6 (.slice C.Ap M C.cp):=c6;obtain⟨HH,ba,cF,EM⟩:=mh h H1 G1 eM;clear h H1 G1 eM
 go_enter Tryz.func91,Tryz.ntmps91
 go_upto_region 2 with(fail)
 rw[show(Obj.cells #[Pz C.a, .slice C.s0.A C.s0.l.length C.s0.c, .slice C.s1.A C.s1.l.length C.s1.c, .map (some C.mb),Iz C.s0.top,Iz C.s1.top, .slice C.Ap M C.cp, .bool C.s0.has, .bool C.s1.has] 195 (0,0))= .cells C.cells 195 (0,0) by rw[EM.h];rfl];rw[<-bp,<-eg];have EG:=ao eg;have d0:∀u,Below w.heap.size w1.drew u->Cz u b 0 (Pz C.a):=fun u hu=>Yb hu ax (Yb B1 ax c0);have d3:∀u,Below w.heap.size w1.drew u->Cz u b 3 (.map (some C.mb)):=fun u hu=>Yb hu ax (Yb B1 ax c3);have d6:∀u,Below w.heap.size w1.drew u->Cz u b 6 (.slice C.Ap M C.cp):=fun u hu=>Yb hu ax (Yb B1 ax cv);clear c0 c1 c2 c3 c4 c5 c6 cv c7 c8 bp eg;refine Zb w.heap.size 99999 [4,9,14,16,18,20] [0,1,2,3,5,6,7,8,10,11,12,13,4,9,14,15,16,17,18,19,20] ?_;refine Yt ?_;clear d0 d3 d6;refine Ym fun K hK=>?_;refine(OC C.a C.gs C.rq C.X _ (ba.h.ar.below (aS (aa _ _)))).mono ?_;rintro e w2⟨a',bt,rq',rfl,cH,bU,b2⟩;have bb:=B1.size;refine Yo hK (b2.mono bb) ?_;have B2:Bz w1 w2:=aS (aa _ _)|>.trans b2
 obtain⟨cQ,b7⟩:=dF cH bU;clear cH bU;refine Yt ?_;refine Ym fun K hK=>?_;refine(Ib C.mb C.f C.n _ (ba.h.mp.below B2)).mono ?_;rintro e w3⟨rfl,cS,b3⟩;have bE:=B2.size;refine Yo hK (b3.mono (aF bb bE)) ?_;have B3:Bz w1 w3:=dW B2 b3;have cT:=b3.size;have cX:=ao cS;clear cS;have dc:=ao (dP.O (ba.h.below B3).op);refine Yt ?_;refine Ym fun K hK=>?_;refine(Cq C.Ap M C.cp (nE C.spare) _ (by rw[EM.h];simp[nE]) (by rw[EM.h];have:=ba.h.small;omega) dc.h (Se _) (oh ba.h.op)).mono ?_;rintro e w4⟨bH,bQ,rfl,bV,b0,b4⟩;refine Yo hK (b4.mono (aF bb (aF bE cT))) ?_;obtain⟨b8,d2⟩:=dF bV b0;clear bV b0;refine Yt ?_;have B4:Bz w1 w4:=dW B3 b4;have ay:=cF.h.below B4;have g0:Cz w4 g 0 (Pz C.a):=ay.cell 0;have g3:Cz w4 g 3 (.map (some C.mb)):=ay.cell 3;have g6:Cz w4 g 6 (.slice C.Ap C.spare.length C.cp):=ay.cell 6;have z0:=ay.frozen 0;have z3:=ay.frozen 3;have z6:=ay.frozen 6;have a5:w.heap.size<=g:=by rw[EG.h];exact af _
 refine Ym fun K hK=>?_;refine Yo hK (mf (aa _ _) (by exact a5) _) ?_;refine Yt ?_;refine Ym fun K hK=>?_;refine Yo hK (mf (aa _ _) (by exact a5) _) ?_;refine Yt ?_;refine Ym fun K hK=>?_;refine Yo hK (mf (aa _ _) (by exact a5) _) ?_;refine aT ?_;obtain⟨w5,e5⟩:=Zn (((w4.setCell ⟨g,0,none⟩ (Pz a')).setCell ⟨g,3,none⟩ (.map (some w2.heap.size))).setCell ⟨g,6,none⟩ (.slice bH M bQ));rw[<-e5];have ek:g<w1.heap.size:=cF.h.lt;have d4:g<w4.heap.size:=ay.lt;have L5:Below w.heap.size w4 w5:=by rw[e5];exact((aa _ _).setCell (by exact a5) _|>.setCell (by exact a5) _).setCell (by exact a5) _
 have K5:∀k,k≠g->w5.heap[k]?=w4.heap[k]?:=fun k I=>by
  rw[e5];rw[av _ _ _ _ I,av _ _ _ _ I,av _ _ _ _ I]
 have d5:=EM.h;clear EM;subst d5;have G5:aE w5 g 195 (dK.cells {C with a:=a',gs:=bt,rq:=rq',mb:=w2.heap.size,Ap:=bH,cp:=bQ}):=by
  rw[e5];exact((ay.set 0 _).set 3 _).set 6 _
 have X4:cY w4 a' bt rq' C.X:=(cQ.h.below b3).below b4;have X5:cY w5 a' bt rq' C.X:=X4.same fun k I=>K5 k (by have:=b7.h k I;have h9:w1.heap.size<=k:=this;omega);have M5:fR w5 w2.heap.size C.f C.n:=(cX.h.below b4).block (K5 _ ae);have P5:w5.ownsRow w1.heap.size 3 1 (.slice bH C.spare.length bQ) C.spare.length (nE C.spare):=aX (ch b8.h ae) fun k I=>K5 k (cA ((b8.h.lt k I).1));obtain⟨C1,b9⟩:=Zn ({C with a:=a',gs:=bt,rq:=rq',mb:=w2.heap.size,Ap:=bH,cp:=bQ}:dK);have dp:Bz w w5:=(B1.trans (B4.mono bb)).trans L5;have I5:Y1 w w1 w5 g 0 C1:=by
  subst b9;exact⟨C.s0.A,C.s0.c,C.s1.A,C.s1.c,G5,X5,b7.h,M5,bE,P5,fun h=>absurd h ae,fun h=>absurd h ae,dp⟩
 have bc:C1.X=C.X/\C1.s0=C.s0/\C1.s1=C.s1/\C1.f=C.f/\C1.n=C.n/\C1.spare=C.spare:=by subst b9;exact⟨rfl,rfl,rfl,rfl,rfl,rfl⟩
 obtain⟨dS,HS,cd⟩:=fY I5 bc a5;obtain⟨w6,e6⟩:=Zn w5;rw[<-e6] at dS⊢;clear b9 I5 bc G5 X4 X5 M5 P5 K5 L5 ay g0 g3 g6 z0 z3 z6 e5 e6 a5 b8 d2 dc cX cQ b7 dp bb bE cT d4 b4 b3 b2 B2 B3 B4;go_wp2_with fail
 go_loopw [26] (fun v wr=> ∃i:Nat,i<=2/\v= Iz (i:Int)/\Hid (Y1 w w1 wr g i C1)) (fun v _=>2 - (intOf v).toNat)
 case atStart=>exact⟨0,ae,rfl,dS⟩
 case round=>
  obtain⟨i,hi,rfl,HC⟩:=hrel;obtain⟨A0,c0,A1,c1,GB,XA,FX,MP,cf,OP,O0,O1,BW⟩:=HC.h;have eo:g<wr.heap.size:=GB.lt;have a0:=HH.h.below BW;have s1:Cz wr b 1 (.slice C.s0.A C.s0.l.length C.s0.c):=a0.D.cell 1;have s2:Cz wr b 2 (.slice C.s1.A C.s1.l.length C.s1.c):=a0.D.cell 2;have d7:C.s0.l.length<=1000000:=cA a0.small;have d8:C.s1.l.length<=1000000:=cA a0.small;obtain⟨d9,ea,eb,ed⟩:=mh (dP.O a0.o0) (dP.O a0.o1) (oh a0.o0) (oh a0.o1);have dT:w1.heap.size<=wr.heap.size:=jE (XA.lt _ (.inl rfl)) (FX _ (.inl rfl));obtain⟨ck,cl,bf,cm,a6,bR,ef,a7⟩:=Dw GB XA FX MP OP O0 O1 BW;clear GB XA FX MP OP O0 O1 BW a0 HC;obtain rfl|rfl|rfl:i=0\/i=1\/i=2:=ae
  ·clear s2
   go_wp2_with fail;refine(AQ C.s0.A C.s0.l.length C.s0.c (cB C.s0.l) _ (by unfold cB;exact dX mX _) d7 d9.h (rb _) eb.h).mono ?_;rintro e wn⟨An,cn,rfl,own,ct,bn⟩;have a2:=ck.h.below bn;have gs:Cz wn g 1 (.slice A0 C1.s0.l.length c0):=a2.cell 1;have zs:=a2.frozen 1;obtain⟨a8,bh,J⟩:=fY own a2 bn;clear own a2 bn ct;go_wp2_with fail;go_roundw
   case rel=>
    have K:∀(v:Value) (k:Nat),k≠g->(wn.setCell ⟨g,1,none⟩ v).heap[k]?=wn.heap[k]?:=fun v k I=>av _ _ _ _ I;have ei:=bh.h.lt;refine⟨1,ae,rfl,ao ?_⟩;have el:C1.s0=C.s0:=HS.h.2.1;have ro:(wn.setCell ⟨g,1,none⟩ (.slice An C.s0.l.length cn)).ownsRow w1.heap.size 227 2 (.slice An C1.s0.l.length cn) C1.s0.l.length (cB C1.s0.l):=by
     rw[el];exact aX (ch a8.h dT) fun k I=>K _ k (cA ((a8.h.lt k I).1))
    refine⟨An,cn,A1,c1,?_,(cl.h.below J.h).same fun k I=>K _ k (cA (bf.h k I)),bf.h,(cm.h.below J.h).block (K _ _ ae),cf,aX (bP a6.h J.h) fun k I=>K _ k (cA ((a6.h.lt k I).1)),?_,?_,(a7.h.trans (J.h.mono a7.h.size)).setCell cd.h _⟩
    ·have:=bh.h.set 1 (.slice An C.s0.l.length cn)
     rw[<-el] at this⊢;exact this
    ·exact fun _=>ro
    ·exact fun h=>absurd h ae
   case measure=>simp[intOf]
  ·clear s1
   go_wp2_with fail;refine(AQ C.s1.A C.s1.l.length C.s1.c (cB C.s1.l) _ (by unfold cB;exact dX mX _) d8 ea.h (rb _) ed.h).mono ?_;rintro e wn⟨An,cn,rfl,own,ct,bn⟩;have a2:=ck.h.below bn;have gs:Cz wn g 2 (.slice A1 C1.s1.l.length c1):=a2.cell 2;have zs:=a2.frozen 2;obtain⟨a8,bh,J⟩:=fY own a2 bn;clear own a2 bn ct;go_wp2_with fail;go_roundw
   case rel=>
    have K:∀(v:Value) (k:Nat),k≠g->(wn.setCell ⟨g,2,none⟩ v).heap[k]?=wn.heap[k]?:=fun v k I=>av _ _ _ _ I;have ei:=bh.h.lt;refine⟨2,ae,rfl,ao ?_⟩;have el:C1.s1=C.s1:=HS.h.2.2.1;have ro:(wn.setCell ⟨g,2,none⟩ (.slice An C.s1.l.length cn)).ownsRow w1.heap.size 227 2 (.slice An C1.s1.l.length cn) C1.s1.l.length (cB C1.s1.l):=by
     rw[el];exact aX (ch a8.h dT) fun k I=>K _ k (cA ((a8.h.lt k I).1))
    refine⟨A0,c0,An,cn,?_,(cl.h.below J.h).same fun k I=>K _ k (cA (bf.h k I)),bf.h,(cm.h.below J.h).block (K _ _ ae),cf,aX (bP a6.h J.h) fun k I=>K _ k (cA ((a6.h.lt k I).1)),?_,?_,(a7.h.trans (J.h.mono a7.h.size)).setCell cd.h _⟩
    ·have:=bh.h.set 2 (.slice An C.s1.l.length cn)
     rw[<-el] at this⊢;exact this
    ·exact fun _=>aX (bP (bR.h ae) J.h) fun k I=>K _ k (by have:=((bR.h ae).lt k I).1;omega)
    ·refine fun _=>⟨ro,fun h hh he=>?_⟩
     have e1:=((bR.h ae).lt h hh).2;rw[el] at he;have e2:=(a8.h.lt h he).1;omega
   case measure=>simp[intOf]
  ·clear s1 s2
   go_wp2_with fail;go_ret;obtain⟨r0,ej⟩:=ef.h ae;have l0:=bR.h ae;have ep:=a7.h.size;have hle:w.heap.size<=w1.heap.size:=B1.size;refine⟨g,rfl,_,⟨ck.h,cl.h,ch l0 (aB _),ch r0 (aB _),ej,cm.h,ch a6.h (aB _),?_⟩,?_,?_,a7.h⟩
   ·have:=HH.h.small
    have e1:=HS.h.2.1;have e2:=HS.h.2.2.1;have e3:=HS.h.2.2.2.2.2;simp only[e1,e2,e3];exact this
   ·rintro j (rfl|hj|hj|hj|rfl|hj)
    ·exact cd.h
    ·exact aF hle (bf.h j hj)
    ·exact aF hle (l0.lt j hj).1
    ·exact aF hle (r0.lt j hj).1
    ·exact aF hle cf
    ·exact aF hle (a6.h.lt j hj).1
   ·obtain⟨q1,q2,q3,q4,q5,q6⟩:=HS.h
    refine⟨q1,by rw[q2],by rw[q3],by rw[q2],by rw[q3],by rw[q2],by rw[q3],q4,q5,q6⟩
theorem Pw (b:Nat) (M:BM) (F:Nat->Prop) (w:World) (h:cz w F b M):
  Wz 91 #[Pz b] w fun e w'=> ∃D,e= .returned (Pz D)/\cz w' (qO w w') D M/\Bz w w':=by
 obtain⟨C,Ls,aK,h1,R,I,hl,rfl,hF⟩:=h;refine(Pv b C w h1).mono ?_;rintro e w'⟨D,C',rfl,k1,k2,⟨q1,q2,J,q4,q5,q6,q7,q8,q9,O⟩,k4⟩;refine⟨D,rfl,⟨C',Ls,aK,k1,q1▸R,⟨q2▸J▸q8▸q9▸O▸I.core,q2▸q4▸q6▸I.yB,J▸q5▸q7▸I.KU⟩,hl,by unfold kD;rw[q2,J],fun j hj=>⟨k2 j hj,k1.lt j hj⟩⟩,k4⟩
end Go.Proofs.YtbaaheidifacaaaGreat
