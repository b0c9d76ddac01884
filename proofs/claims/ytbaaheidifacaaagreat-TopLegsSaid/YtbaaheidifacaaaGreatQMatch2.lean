import Derived.Test.YtbaaheidifacaaaGreatQMktP
import Derived.Test.YtbaaheidifacaaaGreatQImp
set_option linter.defProp false
set_option linter.unusedVariables false
set_option linter.unusedSimpArgs false
set_option maxRecDepth 100000
set_option maxHeartbeats 12800000
namespace Go.Proofs.YtbaaheidifacaaaGreat
variable {C:NF} {G G0 Gm R R0:Nat→Prop} {M:BM} {N f k s x:Nat} {P:PD} {S S1:Sm} {a p ag q q1 aw:Int} {im:Option Qt} {l:List iQ} {r:iQ} {tp tp':kJ} {w:World}
open Go.RowKit
theorem Tryz.Sl:(Tryz.prog.info? 240).map (fun i=>(i.zero,i.size,i.bytes))=some (some (.agg #[Iz 0,Iz 0,Iz 0,Iz 0,Iz 0,Iz 0]),6,48):=by kernel_rfl
theorem LM:kA Tryz.prog 184 240 (.agg #[Iz 0,Iz 0,Iz 0,Iz 0,Iz 0,Iz 0]) 6 48:=
 ⟨Tryz.underlying184,let ⟨i,h,D,I,J⟩:=info_parts Tryz.Sl;⟨i,h,D,I,J⟩,rfl,ae,ae⟩
theorem Jv (D:S[x]?=some M) (hs:M.side k=r::l):bM P S x k q=(S.set x (ja M r.2 (mA P k r q)),dC x k r.1 r.2 (mA P k r q)):=by
 unfold bM;rw[D];simp only[hs]
theorem qj.gX (h:qj w s P S C):
  w.cell? ⟨s,0,none⟩=some (.string (str P.code))/\w.cell? ⟨s,1,none⟩=some (.slice C.ma P.E.length C.mc)/\w.cell? ⟨s,2,none⟩=some (Iz P.tick)/\w.cell? ⟨s,3,none⟩=some (Iz P.low)/\w.cell? ⟨s,4,none⟩=some (Iz P.high)/\w.cell? ⟨s,5,none⟩=some (Iz P.wide)/\
  w.cell? ⟨s,6,none⟩=some (Iz P.rule)/\w.cell? ⟨s,7,none⟩=some (Iz P.top)/\w.cell? ⟨s,8,none⟩=some (Iz P.least)/\w.cell? ⟨s,9,none⟩=some (Iz P.part)/\w.cell? ⟨s,10,none⟩=some (.slice C.sa P.settle.length C.sc)/\w.cell? ⟨s,11,none⟩=some (.slice C.A C.bs.length C.c)/\w.cell? ⟨s,12,none⟩=some (.map (some C.mb)):=
 ⟨h.D.cell 0,h.D.cell 1,h.D.cell 2,h.D.cell 3,h.D.cell 4,h.D.cell 5,h.D.cell 6,h.D.cell 7,h.D.cell 8,h.D.cell 9,h.D.cell 10,h.D.cell 11,h.D.cell 12⟩
structure CD (w w':World) (G R:Nat→Prop) (s:Nat) (P:PD) (S':Sm) (fl:List fG) (A:Option Addr) (c:Nat) (G':Nat→Prop):Prop where
 own:w'.ownsRow w.heap.size 240 6 (.slice A fl.length c) fl.length (gW fl)
 st:dR w' G' R s P S'
 lv:Lv G w w'
 sub:∀j,G' j→G j∨qO w w' j
 off:∀g,(Value.slice A fl.length c).ownBlock=some g→¬G' g
def Y2 (w w5 wr:World) (G0 Gm R:Nat→Prop) (s:Nat) (P:PD) (S:Sm) (x k:Nat) (M:BM) (es:List dn) (ks:List Int) (p:Int) (m:Nat) (v:Value):Prop:=
 wr.ownsRow w5.heap.size 240 6 v (dC x k p (es.take m) (ks.take m)).length (gW (dC x k p (es.take m) (ks.take m)))∧dR wr Gm R s P (S.set x (ja M (es.take m) (ks.take m)))∧Lv G0 w5 wr∧(∀j,Gm j→G0 j∨(w5.heap.size≤j∧j<wr.heap.size))∧∀g,v.ownBlock=some g→¬Gm g
theorem PE (s:Nat) (P:PD) (S:Sm) (G R:Nat->Prop) (x k:Nat) (M:BM) (r:iQ) (lr:List iQ) (sd q:Int) (w:World) (h:dR w G R s P S) (hM:S[x]?=some M) (hs:M.side k=r::lr) (hk:k<2) (e6:sd=(k:Int)+1) (hq:0<=q) (gR:q<=mq r.2):
  Wz 105 #[Pz s, .agg #[Iz (x:Int),Iz sd],Iz q] w fun e w'=> ∃A c G',e= .returned (.slice A (bM P S x k q).2.length c)/\CD w w' G R s P (bM P S x k q).1 (bM P S x k q).2 A c G':=by
 obtain⟨C,hS,gT,g3,hR⟩:=h;have ct:r∈M.side k:=by rw[hs];simp
 have hlen:=(az.1 hM).1;have kx:x<P.count:=by rw[<-hS.sn];exact hlen
 obtain⟨b,M',hb,cF,hB⟩:=hS.book kx;rw[hM] at cF;injection cF with cF;subst cF;obtain⟨gA,hA,hp⟩:=mB hS.ob hb;have xX:=hB.ok;obtain⟨e7,e9,fa⟩:=xX.lvl ct;obtain⟨eu,ew⟩:=yL hS.pd.right xX ct hq gR;rw[Jv hM hs];obtain⟨ks,ey⟩:=Zn (mA P k r q);rw[<-ey] at eu ew⊢;obtain⟨w0,cH⟩:=Zn (w.alloc (.cells #[Iz (x:Int),Iz sd] 175));obtain⟨g4,cQ⟩:=Zn w.heap.size;have D4:=Zq cH cQ;have B0:=Zw cH;have ez:qj w0 s P S C:=hS.same (fun k hk=>B0.block k (hS.Pt k hk)) (fun y k hk=>B0.block k (hS.NG y k hk)) (fun k hk=>B0.block k (hS.Ps k hk)) B0.size;have ff:=hB.below B0;have fi:Cz w0 s 11 (.slice (some ⟨gA,0,none⟩) C.bs.length C.c):=hA▸ez.D.cell 11;have fk:gA<w.heap.size:=(hS.ob.lt gA (by rw[hA];rfl)).2;have g6:Cz w0 gA x (Pz b):=Yb B0 fk hp;have x0:=D4.cell;obtain⟨N,eN⟩:=Zn C.bs.length;rw[<-eN] at fi;have j3:(x:Int)<N:=by rw[eN,hS.bn];omega
 obtain⟨HS,HB,HM,fq,g7,g9,hh,hl,cS,ho,eA,ea,ht,hy,hC,cT⟩:=Yz hS hB hM ct hs eu ew ey ez ff D4 B0 e7 e9 fa e6;clear hS hB hM ct hs eu ew ey ez ff D4 B0 e7 e9 fa e6 hA hb hp xX eN fk kx
 go_enter Tryz.func105,Tryz.ntmps105
 go_wp2_with fail;rw[<-cH,<-cQ];clear cH;have hD:=ao cQ;clear cQ
 go_quiet (fail)
 obtain⟨w1,eB⟩:=Zn (w0.drewN nq);rw[<-eB];have B1:Bz w0 w1:=eB▸below_drewN (aa _ _) _;have x1:Cz w1 g4 1 (Iz sd):=(eA.below B1).cell 1;obtain⟨eC,fx,fz⟩:=fY (eA.below B1) (ho.below B1) B1;clear fi g6 x0 eB B1;go_wp2_with fail;refine(yI b M (C.Fs x) k sd r lr w1 fx hk cT g7).mono ?_;rintro e w2⟨rfl,b2⟩;have x2:Cz w2 g4 1 (Iz sd):=(eC.below b2).cell 1;have y2:Cz w2 g4 0 (Iz (x:Int)):=(eC.below b2).cell 0;have hE:g4<w2.heap.size:=(eC.below b2).lt;obtain⟨w3,bQ⟩:=Zn (w2.alloc (.cells #[Iz r.1,Iz (mq r.2),Iz (r.2.length:Int)] 75));have B3:Bz w1 w3:=bQ▸au b2 _;obtain⟨hG,fH⟩:=dF (fx.below B3) B3;obtain⟨p,ep⟩:=Zn r.1;rw[<-ep] at bQ⊢;have EP:=ao ep;clear x1 b2 B3 ep;go_wp2_with fail;rw[<-bQ];have i5:=ao bQ;clear bQ x2 y2 hE;refine(Uu b M (C.Fs x) k sd p r w3 hG hk cT fq EP.symm).mono ?_;rintro e w4⟨A5,c5,rfl,a8,b4⟩;have eD:Bz w1 w4:=dW fH b4;have bE:Bz w0 w4:=dW fz eD;have S4:qj w4 s P S C:=cS.same (fun k hk=>bE.block k (cS.Pt k hk)) (fun y k hk=>bE.block k (cS.NG y k hk)) (fun k hk=>bE.block k (cS.Ps k hk)) bE.size;obtain⟨k0,k1,k2,k3,k4,k5,k6,k7,k8,k9,hH,hI,hJ⟩:=S4.gX;obtain⟨L5,cX⟩:=Zn (r.2.map (kB sd p));have eE:L5.length=r.2.length:=by rw[cX,br]
 rw[<-cX] at a8;obtain⟨n5,c0⟩:=Zn r.2.length;rw[<-c0] at a8 eE⊢;have j4:n5<=250:=c0▸hy;have C5:=dP.O a8;obtain⟨j5,i6,bR,fT,dc,eF,hL,hN,j6⟩:=QG S4 eD bE cX eE c0 C5 a8 b4;clear S4 eD bE cX eE c0 C5 a8 b4;go_wp2_with fail;have eG:=O2 (.string (str P.code)) (.slice C.ma P.E.length C.mc) (Iz P.tick) (Iz P.low) (Iz P.high) (Iz P.wide) (.slice C.sa P.settle.length C.sc) P.rule P.top P.least P.part A5 n5 c5 L5 q w4 dc (by rw[dc.h];omega) (by rw[dc.h];omega) hL;have eI:kg P.rule P.top P.least P.part L5 q=ks:=by rw[hl.h,fT.h,cT.h,EP.h];rfl
 rw[eI] at eG;have j7:=ao eI;clear eI;refine eG.mono ?_;clear eG;rintro e w5⟨A6,c6,rfl,eb,C6,_,_,b5⟩;obtain⟨G0,dp⟩:=Zn (fun k=>G k/\k<w.heap.size:Nat->Prop);obtain⟨R0,eJ⟩:=Zn (fun k=>R k/\k<w.heap.size:Nat->Prop);have eK:Bz w w5:=dW (dW ea bR) b5;have ed:=ea.h.size;have ef:=bR.h.size;have eg:=b5.size;have f0:w.heap.size<=w3.heap.size:=jE fz.h.size fH.h.size;have S5:dR w5 G0 R0 s P S:=by
  have h1:dR w G0 R0 s P S:=⟨C,HS,fun k hk=>dp▸⟨gT k hk,HS.Pt k hk⟩,fun y k hk=>dp▸⟨g3 y k hk,HS.NG y k hk⟩,fun k hk=>eJ▸⟨hR k hk,HS.Ps k hk⟩⟩;exact h1.below eK
 have O5:w5.ownsRow w3.heap.size 81 5 (.slice A5 n5 c5) n5 (flat L5):=bP hN b5;have f1:aE w5 g4 175 #[Iz (x:Int),Iz sd]:=(eA.below bR).below b5;obtain⟨hO,bU,eL,ei,bV,eM,f2,j8,eO⟩:=QG S5 O5 eb f1 eK dp eJ b5 (And.intro ed (And.intro ef (And.intro eg f0)));clear S5 O5 eb f1 eK dp eJ b5 k0 k1 k2 k3 k4 k5 k6 k7 k8 k9 hH hI hJ C6 ed ef eg f0;have b0:w.heap.size<=g4/\g4<w5.heap.size:=⟨hD.h▸af _,ei.lt⟩;have eP:=ao b0;clear b0;obtain⟨nk,dS⟩:=Zn ks.length;have f3:nk=n5:=dS▸eF.h▸g9;rw[<-dS];obtain⟨f4,dT⟩:=dF dS f3;have i7:nk<=250:=ae;clear dS f3;go_wp2_with fail
 go_loopw [11,44] (fun v i wr=> ∃m:Nat,m<=nk/\i= Iz (m:Int)/\Hid (∃Gm,Y2 w w5 wr G0 Gm R0 s P S x k M r.2 ks p m v)) (fun _ i _=>nk - (intOf i).toNat)
 case atStart=>
  refine⟨0,aB _,rfl,ao ⟨G0,aM _ _ _ _,?_,Lv.refl _ _,fun j I=> .inl I,fun g hg=>by simp[Value.ownBlock] at hg⟩⟩;have h0:ja M (r.2.take 0) (ks.take 0)=M:=by simp[ja]
  rw[h0,Cs HM.h];exact hO
 case round=>
  obtain⟨m,hm,rfl,HT⟩:=hrel;obtain⟨Gm,J,bH,bf,bh,ax⟩:=HT.h;have ay:∀j,G0 j->j<w.heap.size:=fun j I=>by rw[eM.h] at I;exact I.2
  have a2:∀j,w.heap.size<=j->¬G0 j:=fun j I h=>cA (ay j h);have d2:wr.ownsRow w3.heap.size 81 5 (.slice A5 n5 c5) n5 (flat L5):=aX bU fun g hg=>bf.block g (bU.lt g hg).2 (a2 g (jE ((bU.lt g hg).1) eO.h.2.2.2));have d3:wr.ownsRow w4.heap.size 2 1 (.slice A6 ks.length c6) ks.length (bZ ks):=aX eL fun g hg=>bf.block g (eL.lt g hg).2 (a2 g (QF ((eL.lt g hg).1) eO.h.1 eO.h.2.1));have eQ:aE wr g4 175 #[Iz (x:Int),Iz sd]:=ei.lv bf (a2 g4 eP.1);obtain⟨Av,cv,rfl,_⟩:=gD J
  by_cases b9:m<nk
  ·obtain⟨b6,o6,cc,rfl,hP,hQ,hT⟩:=(Cells.O d3).jK (k:=m) (f4.h▸b9)
   obtain⟨b7,o7,od,rfl,hU,e0,e1,e2,e3,e4,hV⟩:=(dP.O d2).KA (k:=m) (dc.h▸dT.h▸b9);obtain⟨e,he⟩:∃e,r.2[m]?=some e:=⟨_,aj (jE eF.h dT.h)⟩;have hW:od=kB sd p e:=by
    have h1:=hV.h;rw[fT.h,bo,he] at h1;injection h1 with h1;exact h1.symm
   subst hW;have hX:=hh.h m e he;obtain⟨c',d4,f5,f6⟩:=hX;have f7:c'=cc:=by have:=hT.h;rw[d4] at this;injection this
   subst f7;have i1:(m:Int)<nk:=ae;have i2:(m:Int)<n5:=cA dT.h;have hf:=zq (x:=x) (k:=k) (p:=p) he d4;have a6:=Ct (M:=M) he d4;obtain⟨fl,ba⟩:=Zn (dC x k p (r.2.take m) (ks.take m));obtain⟨Mm,eR⟩:=Zn (ja M (r.2.take m) (ks.take m));rw[<-ba] at J hf ax⊢;rw[<-eR] at bH a6;have j9:fl.length<=250:=by rw[ba];refine aF (sK _ _) (aF (nA _ _) ae)
   obtain⟨cd,d5,cf,a0,bb,f8,HE,HF,f9,d6,eS,ka,hY,i9,bp,j0,j1⟩:=YC J bH bf bh ax eQ he hf a6 b9 (And.intro f5 f6) ba eR a2 ay d2 d3;clear J bH bf bh ax eQ he hf a6 b9 f5 f6 ba eR a2 ay d2 d3 d4 HT hm;simp only[kB] at e0 e1 e2 e3 e4
   by_cases bt:0<c'
   ·have ej:=ao bt
    obtain⟨r',eT,gi⟩:=wQ (cs:=ks.take m) fq (aH HE) (xY ht HE);rw[<-hY.h] at eT;obtain⟨h9,ia⟩:=dF eT gi;clear eT gi;go_wp2_with fail;obtain⟨wq,ck⟩:=Zn (wr.alloc (.cells #[Iz e.id,Iz sd,Iz p,Iz e.aw, .bool e.top] 81));obtain⟨gO,d7⟩:=Zn wr.heap.size;have DO:=Zq ck d7;have BQ:=Zw ck;have gj:wq.heap.size=wr.heap.size+1:=by rw[ck];simp
    rw[<-ck,<-d7];have ek:w5.heap.size<=wr.heap.size:=cf.size;have gq:w.heap.size<=w5.heap.size:=bV.size;have eU:∀j,wr.heap.size<=j->¬Gm j:=fun j I h=>by
     rcases a0 j h with h1|h1
     ·have:=bp.h j h1;omega
     ·omega
    have gv:¬Gm g4:=fun h=>by
     rcases a0 g4 h with h1|h1
     ·have:=bp.h g4 h1;have:=eP.h.1;omega
     ·have:=eP.h.2;omega
    clear ck e0 e1 e2 e3 e4 hQ i2 hP hU;have ib:=ao d7;clear d7;refine(vp s P (S.set x Mm) Gm R0 x k Mm r' e e.id c' wq (d5.below BQ) (aD hlen) h9 ia rfl hk ⟨cA ej.h,eS.2⟩).mono ?_;rintro en wT⟨rfl,el,a5⟩;have d8:aE wT gO 81 #[Iz e.id,Iz sd,Iz p,Iz e.aw, .bool e.top]:=DO.lv a5 (eU gO (ib.h▸af _));have eV:aE wT g4 175 #[Iz (x:Int),Iz sd]:=(f8.below BQ).lv a5 gv;have a7:∀g,(Value.slice Av fl.length cv).ownBlock=some g->w5.heap.size<=g/\g<wr.heap.size:=fun g hg=>cd.lt g hg;have OT:wT.ownsRow w5.heap.size 240 6 (.slice Av fl.length cv) fl.length (gW fl):=aX (bP cd BQ) fun g hg=>a5.block g (cA (a7 g hg)) (bb g hg);have o0:=d8.cell 0;have o2:=d8.cell 2;have o3:=d8.cell 3;have l0:=eV.cell 0;have l1:=eV.cell 1;have eo:wq.heap.size<=wT.heap.size:=a5.size;have kf:1<=c':=cA ej.h;have ki:=eS.h.2;have kk:=(hC e (aH HE)).2.1;obtain⟨gx,gy,ih,cl,j2,il,gG,er⟩:=Dw el a5 OT a7 eU BQ gj (And.intro ek (And.intro gq eo));clear DO BQ gj ek gq eU gv el a5 d8 eV a7 OT eo
    go_wp2_with (at_builtin
                 refine dO LM ih #[Iz e.id,Iz (x:Int),Iz sd,Iz p,Iz c',Iz (e.aw - c')] rfl _ _ rfl rfl rfl rfl (by intro u hu;simp at hu;rcases hu with rfl|rfl|rfl|rfl|rfl|rfl<;>rfl) ae (jE er.h gG.h) ?_;intro A8 c8 w8 et g8 b8 l8)
    obtain⟨iF,eW,i3⟩:=fY et g8 l8;clear et g8 b8 l8;go_roundw
    case rel=>
     have hf:=HF.h;have a6:=f9.h;rw[if_pos bt] at hf a6;have eY:(fl++[(⟨e.id,x,k,p,c',e.aw - c'⟩:fG)]).length=fl.length+1:=bT;have d9:(⟨e.id,x,k,p,c',e.aw - c'⟩:fG).cells=[Iz e.id,Iz (x:Int),Iz sd,Iz p,Iz c',Iz (e.aw - c')]:=by unfold fG.cells;rw[cT.h]
     obtain⟨z1,z2,z3⟩:=er.h;have z4:=gG.h;have z5:wT.heap.size<=w8.heap.size:=eW.size;have cm:∀j,grow Gm wq wT j->G0 j\/(w5.heap.size<=j/\j<wT.heap.size):=fun j I=>by
      rcases I with I|⟨h1,h2⟩
      ·rcases a0 j I with h3|⟨h3,h4⟩
       ·exact .inl h3
       ·exact .inr ⟨h3,ae⟩
      ·exact .inr ⟨ae,h2⟩
     have cn:∀j,grow Gm wq wT j->(Value.slice Av fl.length cv).ownBlock≠some j:=fun j I he=>by
      have h5:=cl.h j he;rcases I with I|⟨h1,h2⟩
      ·exact bb j he I
      ·omega
     refine⟨m+1,cA d6.h,by go_num,ao ⟨grow Gm wq wT,?_,?_,?_,fun j I=>?_,fun g hg=>?_⟩⟩
     ·rw[hf,eY,Jq,d9]
      exact iF
     ·rw[a6]
      have h1:=gx.h;rw[nS (aD hlen),List.set_set] at h1;refine h1.same (fun j I bc=>eW.block j I fun he=>?_) z5;rcases bc with bc|bc
      ·exact cn j bc he.symm
      ·rw[f2.h] at bc
       have:=cl.h j he.symm;omega
     ·refine((cf.then (Lv.bL il)).trans gy fun j I=>?_).trans (Lv.dy (F:=fun j=>(Value.slice Av fl.length cv).ownBlock=some j) eW fun j I=> .inl I) fun j I=>?_
      ·rcases a0 j I with h3|⟨h3,h4⟩
       ·exact .inl h3
       ·exact .inr h3
      ·exact .inr (cl j I).1
     ·rcases cm j I with h3|⟨h3,h4⟩
      ·exact .inl h3
      ·exact .inr ⟨h3,ae⟩
     ·intro bc
      rcases i3 with h3|h3
      ·exact cn g bc (h3▸hg)
      ·have h6:(Value.slice A8 (fl.length+1) c8).ownBlock=some g:=hg
       rw[h3] at h6;injection h6 with h6;rcases cm g bc with h7|⟨h7,h8⟩
       ·have:=bp.h g h7;omega
       ·omega
    case measure=>have:=d6.h;simp[intOf];omega
   ·have hz:c'=0:=cA eS.h.1
    go_wp2_with fail;go_roundw
    case rel=>
     refine⟨m+1,cA d6.h,by go_num,ao ⟨Gm,?_⟩⟩;have hf:=HF.h;have a6:=f9.h;rw[if_neg bt,fe] at hf;rw[if_neg bt] at a6;unfold Y2;rw[hf,a6];exact⟨cd,d5,cf,a0,bb⟩
    case measure=>have:=d6.h;simp[intOf];omega
  ·obtain rfl:m=nk:=ae
   have eZ:r.2.take m=r.2:=aL (jE dT.h eF.h);have e5:ks.take m=ks:=aL (cA f4.h);rw[eZ,e5] at J bH ax;rw[eZ,e5];obtain⟨fl,ba⟩:=Zn (dC x k p r.2 ks);have gI:dC x k r.1 r.2 ks=fl:=by rw[ba,<-EP.h]
   rw[<-ba] at J ax⊢;obtain⟨cd,d5,cf,a0,bb,gP,bp⟩:=yY J bH bf bh ax gI ay;clear J bH bf bh ax HT d2 d3 eQ eZ e5 ba gI hm b9 a2 ay;go_wp2_with fail;go_ret;have i4:w.heap.size<=w5.heap.size:=bV.size;refine⟨Av,cv,Gm,by rw[gP.h];rfl,?_⟩;rw[gP.h];refine⟨ch cd i4,d5.mono (fun j I _=>I) fun j I=>by rw[f2.h] at I;exact I.1,(Lv.iD bV cf).mono fun j I=> .inl (by rw[eM.h] at I;exact I.1),fun j I=>?_,bb⟩;rcases a0 j I with h1|⟨h1,h2⟩
   ·rw[eM.h] at h1
    exact .inl h1.1
   ·exact .inr ⟨ae,h2⟩
theorem wV (s:Int) (w:World) (h:1<=s/\s<=2):Wz 103 #[Iz s] w fun e w'=>e= .returned (Iz (3 - s))/\w=w':=by
 go_enter Tryz.func103,Tryz.ntmps103
 go_wp2;go_ret;exact⟨rfl,rfl⟩
theorem Fk (s p x:Int) (k:Nat) (w:World) (I:k<2) (hs:s=(k:Int)+1):Wz 104 #[Iz s,Iz p,Iz x] w fun e w'=>e= .returned (.bool (lp k p x))/\w=w':=by
 obtain⟨B,D⟩:=Zn (lp k p x);rw[<-D];rcases mI I with rfl|rfl
 ·obtain rfl:s=1:=ae
  have e:B=decide (x<=p):=by rw[D];simp[lp]
  subst e;clear D hs
  by_cases h:x<=p
  ·have hd:decide (x<=p)=true:=by simpa using h
   go_enter Tryz.func104,Tryz.ntmps104
   go_wp2;go_ret;exact⟨by simp[h],rfl⟩
  ·have hd:decide (x<=p)=false:=by simpa using h
   go_enter Tryz.func104,Tryz.ntmps104
   go_wp2;go_ret;exact⟨by simp[h],rfl⟩
 ·obtain rfl:s=2:=ae
  have e:B=decide (p<=x):=by rw[D];simp[lp]
  subst e;clear D hs
  go_enter Tryz.func104,Tryz.ntmps104
  go_wp2;go_ret;exact⟨rfl,rfl⟩
theorem Ag (s:Nat) (P:PD) (S:Sm) (G R:Nat->Prop) (x:Nat) (w:World) (h:dR w G R s P S) (hx:x<P.count):Wz 98 #[Pz s,Iz (x:Int)] w fun e w'=>e= .returned (.bool true)/\w=w':=by
 obtain⟨C,hS,_⟩:=h;have I:Cz w s 11 (.slice C.A C.bs.length C.c):=hS.D.cell 11;obtain⟨N,J⟩:=Zn C.bs.length;rw[<-J] at I;have i1:(x:Int)<N:=by rw[J,hS.bn];omega
 clear hS J hx
 go_enter Tryz.func98,Tryz.ntmps98
 go_wp2;go_ret;exact⟨bT,rfl⟩
theorem Fl (s:Nat) (P:PD) (S:Sm) (G R:Nat->Prop) (x:Nat) (sd q:Int) (w:World) (h:dR w G R s P S) (hx:x<P.count) (hs:1<=sd/\sd<=2) (hq:1<=q/\q<=1000000):Wz 63 #[Pz s,Iz (x:Int),Iz sd,Iz q] w fun e w'=>e= .returned (.bool true)/\w=w':=by
 obtain⟨q1,q2⟩:=hq;obtain rfl|rfl:sd=1\/sd=2:=ae
 ·go_enter Tryz.func63,Tryz.ntmps63
  go_wp2_with fail;refine(Ag s P S G R x w h hx).mono ?_;rintro e u⟨rfl,rfl⟩;go_wp2_with fail;go_ret;exact⟨bT,rfl⟩
 ·go_enter Tryz.func63,Tryz.ntmps63
  go_wp2_with fail;refine(Ag s P S G R x w h hx).mono ?_;rintro e u⟨rfl,rfl⟩;go_wp2_with fail;go_ret;exact⟨bT,rfl⟩
theorem LN (s:Nat) (P:PD) (S:Sm) (G R:Nat->Prop) (w:World) (h:dR w G R s P S):Wz 55 #[Pz s] w fun e w'=>e= .returned (Iz (cK S:Int))/\w=w':=by
 obtain⟨C,hS,_⟩:=h;have I:Cz w s 12 (.map (some C.mb)):=hS.D.cell 12;have hlen:=hS.mp.len Tryz.underlying107 3;clear hS
 go_enter Tryz.func55,Tryz.ntmps55
 go_wp2;go_ret;exact⟨rfl,rfl⟩
theorem Sn (s:Nat) (P:PD) (S:Sm) (G R:Nat->Prop) (x k:Nat) (M:BM) (sd id p aw:Int) (w:World) (h:dR w G R s P S) (hM:S[x]?=some M) (J:k<2) (bQ:sd=(k:Int)+1) (a6:dZ id) (a7:∀(y:Nat) (N:BM),S[y]?=some N->∀e∈N.I,e.id≠id) (a8:cK S<250) (hp:P.fy x p=0) (hq:1<=aw/\aw<=1000000):
  Wz 109 #[Pz s,Iz (x:Int),Iz id,Iz sd,Iz p,Iz aw] w fun e w'=>e= .returned (Iz 0)/\dR w' (grow G w w') R s P (oW S x k id p aw)/\Lv G w w':=by
 have bR:=h;obtain⟨C,hS,bU,ba,hR⟩:=h;have hlen:=(az.1 hM).1;have kx:x<P.count:=by rw[<-hS.sn];exact hlen
 obtain⟨b,M',hb,ay,hB⟩:=hS.book kx;rw[hM] at ay;injection ay with ay;subst ay;obtain⟨gA,hA,cn⟩:=mB hS.ob hb;have hf:C.f id=none:=by
  cases hf:C.f id with
  |none=>rfl
  |some v=>
   obtain⟨y,N,e,h1,h2,h3,_⟩:=hS.bw id v hf;exact absurd h3 (a7 y N h1 e h2)
 have bb:=pU hS.mp a6;rw[hf] at bb;simp only[Option.getD_none,tC] at bb;have bV:=hS.mp.len Tryz.underlying107 3;obtain⟨cS,bc⟩:=Zn (cK S:Nat);rw[<-bc] at bV a8;have d2:(cS:Int)<250:=ae;obtain⟨k0,k1,k2,k3,k4,k5,k6,k7,k8,k9,ct,cv,cF⟩:=hS.gX;obtain⟨HS,HB,HM,cH,HF,HA,b0,b2,bf,HP,cQ,b7,b8,HQ,bh⟩:=V8 hS hB hM bR hf hA hb a6 a7 hp bQ bc a8 hq kx;clear hS hB hM bR hf hA hb a6 a7 hp bQ bc hq a8
 go_enter Tryz.func109,Tryz.ntmps109
 go_wp2_with fail;refine(Ag s P S G R x w cH.h bh.h).mono ?_;rintro e u⟨rfl,rfl⟩;go_wp2_with fail;refine(pQ P C.ma C.mc C.sa C.sc (x:Int) p w HS.h.pd).mono ?_;rintro e w1⟨rfl,b1⟩;rw[Jm P bh.h,HP.h];have S1:qj w1 s P S C:=HS.h.same (fun k J=>b1.block k (HS.h.Pt k J)) (fun y k J=>b1.block k (HS.h.NG y k J)) (fun k J=>b1.block k (HS.h.Ps k J)) b1.size;obtain⟨j0,j1,j2,j3,j4,j5,j6,j7,j8,j9,cT,bp,cX⟩:=S1.gX;obtain⟨d6,a0,b9⟩:=mB S1.ob b0.h;have ax:=HA.h;rw[a0] at ax;injection ax with ax;injection ax with ax _;subst ax;rw[a0] at bp;obtain⟨N,eN⟩:=Zn C.bs.length;rw[<-eN] at bp;have d7:(x:Int)<N:=by rw[eN,S1.bn];have:=bh.h;omega
 obtain⟨bt,bE,d8,EN⟩:=mh S1 b1 a0 eN;clear k0 k1 k2 k3 k4 k5 k6 k7 k8 k9 ct cv cF j0 j1 j2 j3 j4 j5 j6 j7 j8 j9 cT cn bb bV S1 b1 a0 eN;go_wp2_with fail;refine(R8 b M (C.Fs x) k sd id p aw w1 (HB.h.below bE.h) J cQ.h b2.h (fun e he=>bf.h x M HM.h e he) (QF (Pu HM.h) b8.h b7.h) HQ.h).mono ?_;rintro e w2⟨rfl,cd,L2⟩;have off:=fun k (J:C.QH s k) (hF:C.Fs x k)=>(bt.h.off x k hF).1 J;have a5:=bt.h.D.lv L2 (off s (.inl rfl));have d9:Cz w2 s 12 (.map (some C.mb)):=a5.cell 12;have cf:=bt.h.mp.lv L2 (off _ (.inr (.inl rfl)));obtain⟨w3,d3,a2,ck⟩:=cf.put Tryz.underlying107 b2.h (Iz (x:Int)) (cA HS.h.cnt);rw[HF.h] at a2;simp only[tC] at a2;obtain⟨c0,dc,dp,bH⟩:=mh cd L2 a2 ck;clear bp cX b9 a5 cf cd L2 a2 ck;go_wp2_with fail;go_ret;have cs:=lB HM.h (M.add k id p aw);have al:=Uv M k id p aw;have cl:cK (S.set x (M.add k id p aw))=cK S+1:=ae;have hm:=dp.h;rw[if_neg bT,<-cl] at hm;have L3:Lv (fun k=>C.Fs x k\/k=C.mb) w w3:=((Lv.iD bE.h dc.h).mono (G:=fun k=>C.Fs x k\/k=C.mb) fun k J=> .inl (.inl J)).then (Lv.dy bH.h fun k J=> .inl (.inr (by injection J with J;exact J.symm)));have cm:∀k,C.Fs x k->k≠C.mb:=fun k J e=>(HS.h.off x k J).1 (.inr (.inl e));have d4:w.heap.size<=w1.heap.size:=bE.h.size;have d5:w2.heap.size<=w3.heap.size:=bH.h.size;have B3:cz w3 (grow (C.Fs x) w w3) b (M.add k id p aw):=by
  have h4:cz w3 (grow (C.Fs x) w1 w2) b (M.add k id p aw):=c0.h.same fun j hj hF=>bH.h.block j hj fun e=>by
   injection e with e;rcases hF with hF|⟨h5,_⟩
   ·exact cm j hF e
   ·have:=HS.h.Pt C.mb (.inr (.inl rfl));omega
  refine h4.mono fun j hj _=>?_;rcases hj with hj|⟨h5,h6⟩
  ·exact .inl hj
  ·exact .inr ⟨ae,ae⟩
 have dS:=HS.h.change (w':=w3) b0.h HM.h L3 B3 hm
  (fun y N' e0 h1 h2=>by
   rcases nX h1 with⟨rfl,rfl⟩|⟨ea,h1⟩
   ·rcases Co h2 with⟨h3,_⟩|⟨e1,h3,h4,_⟩
    ·rw[if_pos h3]
    ·rw[<-h4,if_neg (bf.h y M HM.h e1 h3)]
     exact HS.h.fw y M e1 HM.h h3
   ·rw[if_neg (bf.h y N' h1 e0 h2)]
    exact HS.h.fw y N' e0 h1 h2)
  (fun i v hv=>by
   by_cases hi:i=id
   ·rw[if_pos hi] at hv
    injection hv with hv;obtain⟨e1,h3,h4⟩:=(Sb M k id p aw).1;exact⟨x,_,e1,aD hlen,h3,h4.trans hi.symm,hv.symm⟩
   ·rw[if_neg hi] at hv
    obtain⟨y,N',e0,h1,h2,h3,h4⟩:=HS.h.bw i v hv
    by_cases hy:y=x
    ·subst hy
     rw[HM.h] at h1;injection h1 with h1;subst h1;obtain⟨e1,h5,h6⟩:=(Sb M k id p aw).2 e0 h2;exact⟨y,_,e1,aD hlen,h5,h6.trans h3,h4⟩
    ·exact⟨y,N',e0,by rw[aZ (fun e=>hy e.symm)];exact h1,h2,h3,h4⟩)
  (fun kk rr dT=>by
   rcases Sc dT with h1|⟨r0,h1,h2⟩
   ·rw[h1];exact HP.h
   ·rw[<-h2]
    exact HS.h.pr x kk M r0 HM.h h1)
  (by rw[cl];have:=b8.h;have:=b7.h;omega)
 rw[LG HM.h];refine⟨rfl,⟨_,dS,fun k J=> .inl (bU k J),fun y j hj=>?_,hR⟩,L3.mono fun k J=> .inl ?_⟩
 ·have O:rF C x w w3 y j:=hj
  unfold rF at O
  split at O
  ·rcases O with O|O
   ·exact .inl (ba x j O)
   ·exact .inr O
  ·exact .inl (ba y j O)
 ·rcases J with J|rfl
  ·exact ba x k J
  ·exact bU _ (.inr (.inl rfl))
theorem LO (s:Nat) (P:PD) (S:Sm) (G R:Nat->Prop) (id:Int) (w:World) (h:dR w G R s P S) (ay:dZ id) (a0:∀(y:Nat) (N:BM),S[y]?=some N->∀e∈N.I,e.id≠id):
  Wz 40 #[Pz s,Iz id] w fun e w'=>e= .returned (.tuple #[Iz 0, .agg #[Iz 0,Iz 0,Iz 0,Iz 0, .bool false], .bool false])/\Bz w w':=by
 obtain⟨C,hS,ba,bb,hR⟩:=h;have hf:C.f id=none:=by
  cases hf:C.f id with
  |none=>rfl
  |some v=>
   obtain⟨y,N,e,h1,h2,h3,_⟩:=hS.bw id v hf;exact absurd h3 (a0 y N h1 e h2)
 obtain⟨wz,O⟩:=Zn (w.alloc (.cells #[Iz 0,Iz 0,Iz 0,Iz 0, .bool false] 81));obtain⟨g5,ax⟩:=Zn w.heap.size;have D5:=Zq O ax;have BZ:=Zw O;have a2:=pU (hS.mp.below BZ) ay;rw[hf] at a2;simp only[Option.getD_none,tC] at a2;have bc:Cz wz s 12 (.map (some C.mb)):=(hS.D.below BZ).cell 12;have a5:w.heap.size<=g5:=ae;obtain⟨J,a7,a8⟩:=fY D5 BZ a5;clear hS hf D5 BZ a5 a0 ay
 go_enter Tryz.func40,Tryz.ntmps40
 go_upto_region 1 with(fail)
 rw[<-O,<-ax];clear O ax;have z0:=J.h.cell 0;have z1:=J.h.cell 1;have z2:=J.h.cell 2;have z3:=J.h.cell 3;have z4:=J.h.cell 4;have y0:=J.h.frozen 0;have y1:=J.h.frozen 1;have y2:=J.h.frozen 2;have y3:=J.h.frozen 3;have y4:=J.h.frozen 4;have hw:=bO (us:=[Iz 0,Iz 0,Iz 0,Iz 0, .bool false]) J rfl;have hb:=bA (us:=[Iz 0,Iz 0,Iz 0,Iz 0, .bool false]) (i:=0) a8 a7;simp only[fW] at hw hb;obtain⟨HW,HB⟩:=dF hw hb;clear hw hb;go_wp2_with fail
 (try simp only[Exit.inBlock,Exit.then])
 obtain⟨wf,a6⟩:=Zn (((((wz.setCell ⟨g5,0,none⟩ (Iz 0)).setCell ⟨g5,0+1,none⟩ (Iz 0)).setCell ⟨g5,0+1+1,none⟩ (Iz 0)).setCell ⟨g5,0+1+1+1,none⟩ (Iz 0)).setCell ⟨g5,0+1+1+1+1,none⟩ (.bool false));have hw:=HW.h;have hb:=HB.h;rw[<-a6] at hw hb;refine iv a6 ?_;have r0:=hw.cell 0;have r1:=hw.cell 1;have r2:=hw.cell 2;have r3:=hw.cell 3;have r4:=hw.cell 4;clear z0 z1 z2 z3 z4 y0 y1 y2 y3 y4;refine bodyPost_ret (v:= .tuple #[Iz 0, .agg #[Iz 0,Iz 0,Iz 0,Iz 0, .bool false], .bool false]) (by simp[results,Tryz.results40,go_sem,r0,r1,r2,r3,r4];try rfl) rfl ?_;exact⟨rfl,hb⟩
theorem LP (s:Nat) (P:PD) (S:Sm) (G R:Nat->Prop) (x k:Nat) (M:BM) (r:iQ) (e:dn) (id:Int) (w:World) (h:dR w G R s P S) (hM:S[x]?=some M) (hr:r∈M.side k) (he:e∈r.2) (a7:e.id=id) (hk:k<2):
  Wz 40 #[Pz s,Iz id] w fun en w'=>en= .returned (.tuple #[Iz (x:Int), .agg #[Iz id,Iz ((k:Int)+1),Iz r.1,Iz e.aw, .bool e.top], .bool true])/\Bz w w':=by
 obtain⟨C,hS,b7,b8,hR⟩:=h;obtain⟨kf,ki,b9,cd,kx⟩:=hS.known hM hr he;rw[a7] at kf ki;obtain⟨b,M',hb,ay,hB⟩:=hS.book kx;rw[hM] at ay;injection ay with ay;subst ay;obtain⟨gA,hA,hp⟩:=mB hS.ob hb;obtain⟨wz,a0⟩:=Zn (w.alloc (.cells #[Iz 0,Iz 0,Iz 0,Iz 0, .bool false] 81));obtain⟨g5,a2⟩:=Zn w.heap.size;have D5:=Zq a0 a2;have BZ:=Zw a0;have a8:=pU (hS.mp.below BZ) ki;rw[kf] at a8;simp only[qo,oG] at a8;have O:=hS.D.below BZ;have bb:Cz wz s 11 (.slice (some ⟨gA,0,none⟩) C.bs.length C.c):=hA▸O.cell 11;have bE:Cz wz s 12 (.map (some C.mb)):=O.cell 12;have bc:gA<w.heap.size:=(hS.ob.lt gA (by rw[hA];rfl)).2;have bH:Cz wz gA x (Pz b):=Yb BZ bc hp;obtain⟨N,eN⟩:=Zn C.bs.length;rw[<-eN] at bb;have cf:(x:Int)<N:=by rw[eN,hS.bn];omega
 have bf:w.heap.size<=g5:=ae;obtain⟨bh,bQ,bR,HB,HR,HE,bU⟩:=yY D5 BZ bf (hB.below BZ) hr he a7;clear hS hb hM hr he ki kf hA eN kx D5 BZ bf hB a7 O bc hp
 go_enter Tryz.func40,Tryz.ntmps40
 go_upto_region 1 with(fail)
 rw[<-a0,<-a2];clear a0;have ck:=ao a2;clear a2;go_wp2_with fail;refine(yH b M (C.Fs x) k ((k:Int)+1) r e id wz HB.h hk rfl HR.h HE.h bU.h).mono ?_;rintro en w2⟨rfl,b2⟩;obtain⟨w3,a5⟩:=Zn (w2.alloc (.cells #[Iz id,Iz ((k:Int)+1),Iz r.1,Iz e.aw, .bool e.top] 81));obtain⟨g9,ba⟩:=Zn w2.heap.size;have D9:=Zq a5 ba;have B3:Bz wz w3:=a5▸au b2 _;have bp:=bh.h.below B3;have bV:Hid (g9≠g5):=ao (by have h1:=bh.h.lt;have h2:=b2.size;omega);obtain⟨ax,b0,I⟩:=fY D9 B3 bp;clear b2 D9 B3 bp bb bE bH a8
 go_upto_region 5 with(fail)
 rw[<-a5,<-ba];clear a5 ba;obtain⟨Fs,a6⟩:=Zn (fun j=>j=g9:Nat->Prop);have m9:Fs g9:=by rw[a6]
 have n9:∀j,Fs j->j≠g5:=fun j hj e=>by
  rw[a6] at hj;exact bV.h (hj.symm.trans e)
 have d0:∀u,aI Fs w3.drew u->Cz u g9 0 (Iz id):=fun u hu=>(hu.cell m9).trans (ax.h.cell 0);have d1:∀u,aI Fs w3.drew u->Cz u g9 1 (Iz ((k:Int)+1)):=fun u hu=>(hu.cell m9).trans (ax.h.cell 1);have d2:∀u,aI Fs w3.drew u->Cz u g9 2 (Iz r.1):=fun u hu=>(hu.cell m9).trans (ax.h.cell 2);have d3:∀u,aI Fs w3.drew u->Cz u g9 3 (Iz e.aw):=fun u hu=>(hu.cell m9).trans (ax.h.cell 3);have d4:∀u,aI Fs w3.drew u->Cz u g9 4 (.bool e.top):=fun u hu=>(hu.cell m9).trans (ax.h.cell 4);have z0:=I.h.cell 0;have z1:=I.h.cell 1;have z2:=I.h.cell 2;have z3:=I.h.cell 3;have z4:=I.h.cell 4;have y0:=I.h.frozen 0;have y1:=I.h.frozen 1;have y2:=I.h.frozen 2;have y3:=I.h.frozen 3;have y4:=I.h.frozen 4;have hw:=bO (us:=[Iz id,Iz ((k:Int)+1),Iz r.1,Iz e.aw, .bool e.top]) I.h rfl;have hb:=bA (us:=[Iz id,Iz ((k:Int)+1),Iz r.1,Iz e.aw, .bool e.top]) (i:=0) bR.h (dW bQ.h b0.h);have hh:aI Fs w3.drew (fW w3 g5 0 [Iz id,Iz ((k:Int)+1),Iz r.1,Iz e.aw, .bool e.top]).drew:=fun j hj=>mJ (n9 j hj);simp only[fW] at hw hb hh;obtain⟨HW,HB,HH,cl⟩:=mh hw hb hh a6;clear hw hb hh m9 n9 a6;refine bx (R:=aI Fs) 99999 [3] [0,1,2,3,4] (by kernel_rfl) (aI.tr _) (aI.J _) (by kernel_rfl) (fun _ _ _ _ _ h=>h) ?_;refine Yt ?_;clear d0 d1 d2 d3 d4;refine Ym fun K hK=>?_;refine Yo hK (HH.h) ?_;refine Yt ?_;refine aT ?_;clear z0 z1 z2 z3 z4 y0 y1 y2 y3 y4;go_wp2_with fail
 (try simp only[Exit.inBlock,Exit.then])
 obtain⟨wf,bt⟩:=Zn ((((((w3.setCell ⟨g5,0,none⟩ (Iz id)).setCell ⟨g5,0+1,none⟩ (Iz ((k:Int)+1))).setCell ⟨g5,0+1+1,none⟩ (Iz r.1)).setCell ⟨g5,0+1+1+1,none⟩ (Iz e.aw)).setCell ⟨g5,0+1+1+1+1,none⟩ (.bool e.top)).drew);have hw:=HW.h.drew;have hb:=HB.h.drew;rw[<-bt] at hw hb;refine iv bt ?_;have r0:=hw.cell 0;have r1:=hw.cell 1;have r2:=hw.cell 2;have r3:=hw.cell 3;have r4:=hw.cell 4;refine bodyPost_ret (v:= .tuple #[Iz (x:Int), .agg #[Iz id,Iz ((k:Int)+1),Iz r.1,Iz e.aw, .bool e.top], .bool true]) (by simp[results,Tryz.results40,go_sem,r0,r1,r2,r3,r4];try rfl) rfl ?_;exact⟨rfl,hb⟩
theorem rH (N:Nat) (tp:kJ) (i:Nat):(lC N tp)[i]?=if i<N*6 then (qQ tp (i / 6))[i % 6]? else none:=by
 split
 ·rename_i h
  have:=ig (uC tp) (l:=List.range N) (i:=i / 6) (x:=i / 6) (i % 6) (oF _ ae) (rS ae);rw[(ae:i / 6*6+i % 6=i)] at this;exact this
 ·rw[cO]
  rw[ph];omega
theorem CE (h:∀k,k<2->tp x k=tp' x k):qQ tp x=qQ tp' x:=by
 unfold qQ wS wU;rw[h 0 ae,h 1 ae]
theorem zr (h:∀x k,x<N->k<2->tp x k=tp' x k):lC N tp=lC N tp':=by
 apply fA;intro i;rw[rH,rH]
 split
 ·rw[CE fun k D=>h (i / 6) k ae D]
 ·rfl
def uE (tp:kJ) (x k:Nat) (p q:Int):kJ:=fun y m=>if y=x∧m=k then some (p,q) else tp y m
theorem PF (hx:x<N) (O:k<2) (p q:Int):
  (((lC N tp).set (x*6+k) (.bool true)).set (x*6+(2+k)) (Iz p)).set (x*6+(4+k)) (Iz q)=lC N (uE tp x k p q):=by
 apply fA;intro i;rw[rH];simp only[List.getElem?_set,jn,ph,rH]
 by_cases hi:i<N*6
 ·by_cases J:i / 6=x
  ·obtain⟨b,hb⟩:=Zn (i % 6)
   have I:i=x*6+b:=ae;have D:b<6:=ae;subst I;have e1:(x*6+b) / 6=x:=ae;have e2:(x*6+b) % 6=b:=ae;rw[e1,e2];obtain rfl|rfl:k=0\/k=1:=ae
   ·match b,D with
    |0,_=>simp[hi,qQ,wS,wU,uE]
    |1,_=>simp[hi,qQ,wS,wU,uE]
    |2,_=>simp[hi,qQ,wS,wU,uE]
    |3,_=>simp[hi,qQ,wS,wU,uE]
    |4,_=>simp[hi,qQ,wS,wU,uE]
    |5,_=>simp[hi,qQ,wS,wU,uE]
   ·match b,D with
    |0,_=>simp[hi,qQ,wS,wU,uE]
    |1,_=>simp[hi,qQ,wS,wU,uE]
    |2,_=>simp[hi,qQ,wS,wU,uE]
    |3,_=>simp[hi,qQ,wS,wU,uE]
    |4,_=>simp[hi,qQ,wS,wU,uE]
    |5,_=>simp[hi,qQ,wS,wU,uE]
  ·have hc:qQ (uE tp x k p q) (i / 6)=qQ tp (i / 6):=CE fun m _=>by unfold uE;rw[if_neg (fun h=>J h.1)]
   rw[hc,if_neg ae,if_neg ae,if_neg ae]
 ·rw[if_neg ae,if_neg ae,if_neg ae,if_neg hi,if_neg hi]
def Kf (tp:kJ) (n j:Nat):kJ:=fun x k=>if x<n∨(x=n∧k<j) then tp x k else none
theorem So {n j:Nat} (p q:Int) (h:tp n j=some (p,q)):uE (Kf tp n j) n j p q=Kf tp n (j+1):=by
 funext x k
 unfold uE Kf
 by_cases D:x=n/\k=j
 ·rw[if_pos D,if_pos (.inr ⟨D.1,ae⟩),D.1,D.2,h]
 ·rw[if_neg D]
  by_cases I:x<n\/x=n/\k<j
  ·rw[if_pos I,if_pos ae]
  ·rw[if_neg I,if_neg ae]
theorem Sp {n j:Nat} (h:tp n j=none):Kf tp n j=Kf tp n (j+1):=by
 funext x k
 unfold Kf
 by_cases D:x=n/\k=j
 ·rw[if_neg ae,if_pos (.inr ⟨D.1,ae⟩),D.1,D.2,h]
 ·by_cases I:x<n\/x=n/\k<j
  ·rw[if_pos I,if_pos ae]
  ·rw[if_neg I,if_neg ae]
theorem Uw (N:Nat) (tp:kJ) (n:Nat):lC N (Kf tp n 2)=lC N (Kf tp (n+1) 0):=zr fun x k _ D=>by
 unfold Kf
 by_cases h:x<n\/x=n/\k<2
 ·rw[if_pos h,if_pos ae]
 ·rw[if_neg h,if_neg ae]
theorem Ux (N:Nat) (tp:kJ):lC N (Kf tp N 0)=lC N tp:=zr fun x k hx _=>by
 unfold Kf;rw[if_pos (.inl hx)]
theorem Sq (tp:kJ):Kf tp 0 0=fun _ _=>none:=by
 funext x k
 unfold Kf;rw[if_neg ae]
theorem PG (n:Nat):(madeCells (Value.agg #[.bool false, .bool false,Iz 0,Iz 0,Iz 0,Iz 0]).cells (n*6)).toList=lC n (fun _ _=>none):=by
 apply fA;intro j;rw[rH]
 by_cases D:j<n*6
 ·rw[if_pos D]
  have J:(madeCells (Value.agg #[.bool false, .bool false,Iz 0,Iz 0,Iz 0,Iz 0]).cells (n*6)).toList[j]?=some ((Value.agg #[.bool false, .bool false,Iz 0,Iz 0,Iz 0,Iz 0]).cells[j % 6]!):=by
   simp[madeCells,D,Value.cells]
  rw[J];have I:j % 6<6:=oF _ ae;obtain⟨m,hm⟩:=Zn (j % 6);rw[<-hm] at I⊢
  match m,I with
  |0,_=>rfl
  |1,_=>rfl
  |2,_=>rfl
  |3,_=>rfl
  |4,_=>rfl
  |5,_=>rfl
 ·rw[if_neg D,cO (by simp[madeCells];omega)]
theorem Fm (h:M.side k=[]):yG M k=none:=by unfold yG;rw[h]
theorem Fo (h:M.side k=r::l):yG M k=some (r.1,mq r.2):=by unfold yG;rw[h]
theorem Sr (h:S[x]?=some M):lU S x k=yG M k:=by unfold lU;rw[h]
theorem vr (s:Nat) (P:PD) (S:Sm) (G R:Nat->Prop) (w:World) (h:dR w G R s P S):
  Wz 58 #[Pz s] w fun e w'=> ∃A c,e= .returned (.slice A P.count c)/\w'.ownsRow w.heap.size 171 6 (.slice A P.count c) P.count (lC P.count (lU S))/\Bz w w':=by
 obtain⟨C,hS,ek,el,hR⟩:=h;have bc:=hS.pd.right.cnt;obtain⟨N,eN⟩:=Zn P.count;have bf:C.bs.length=N:=by rw[hS.bn,eN]
 have cF:Cz w s 11 (.slice C.A N C.c):=bf▸hS.D.cell 11;have ei:N<=21:=eN▸bc.1;obtain⟨i,hi,hz,cf,ck⟩:=Sj.info;have cH:∀w:World,(Instr.makeSlice 118 (Iz (N:Int)) (Iz (N:Int))).run Tryz.prog w= .ok (.slice (some ⟨w.heap.size,0,none⟩) N N) (w.alloc (.cells (madeCells (Value.agg #[.bool false, .bool false,Iz 0,Iz 0,Iz 0,Iz 0]).cells (N*6)) 171)):=fun w=>by
  have hr:=run_make (P:=Tryz.prog) w 118 171 i _ Sj.under hi hz .i64 .i64 N N ae ae (by rw[ck];omega) ae;rw[cf] at hr;exact hr
 obtain⟨MC,a5⟩:=Zn (madeCells (Value.agg #[.bool false, .bool false,Iz 0,Iz 0,Iz 0,Iz 0]).cells (N*6));rw[<-a5] at cH;have a6:(w.alloc (.cells MC 171)).ownsRow w.heap.size 171 6 (.slice (some ⟨w.heap.size,0,none⟩) N N) N (lC N (fun _ _=>none)):=by
  have:=cI (base:=w.heap.size) (size:=6) (e:=171) w MC N (af _) (by unfold maxLen;omega) (a5▸size_madeCells _ _);rw[a5,PG] at this;rw[a5];exact this
 obtain⟨w1,bh⟩:=Zn (w.alloc (.cells MC 171));obtain⟨gT,bp⟩:=Zn w.heap.size;have B1:=Zw bh;rw[<-bh,<-bp] at a6;have ej:=Yb B1 hS.D.lt cF;obtain⟨tp,bt⟩:=Zn (lU S);rw[<-eN,<-bt];obtain⟨HS,HN,cl,cQ,cm,eo,bE,cS⟩:=Dw hS eN a6 B1 bt bf bp hS.D.lt;clear hS eN a6 B1 bt bf hi hz cf ck a5 bc bp
 go_enter Tryz.func58,Tryz.ntmps58
 have ep:=cS.h;go_wp2_with fail;rw[<-bh,<-bE.h]
 go_loopw [21] (fun v wr=> ∃n:Nat,n<=N/\v= Iz (n:Int)/\Hid (wr.ownsRow w.heap.size 171 6 (.slice (some ⟨gT,0,none⟩) N N) N (lC N (Kf tp n 0))/\Bz w wr)) (fun v _=>N - (intOf v).toNat)
 case atStart=>exact⟨0,aB _,rfl,ao ⟨by rw[Sq];exact ch cl (bu bE.symm),cQ⟩⟩
 case round=>
  obtain⟨n,hn,rfl,HM⟩:=hrel;obtain⟨I,hB⟩:=HM.h
  by_cases bH:n<N
  ·obtain⟨b,M,hb,hM,cT⟩:=HS.h.book (HN.h▸bH)
   obtain⟨gA,hA,hp⟩:=mB HS.ob hb;have cX:=(HS.ob.lt gA (by rw[hA];rfl)).2;have dc:=Yb hB cX hp;have i1:(n:Int)<N:=ae;obtain⟨wo,rfl⟩:=Zn wr;obtain⟨wi,a7⟩:=Zn (wo.alloc (.cells #[Iz 1,Iz 2] 3));obtain⟨gI,bQ⟩:=Zn wo.heap.size;have DI:=Zq a7 bQ;have BI:=Zw a7;have dp:=bP I BI;have dS:=hB.trans (BI.mono hB.size);have dT:∀j,lU S n j=yG M j:=fun j=>Sr hM;obtain⟨d2,d3,d4,cn,ct,bR,d5,er⟩:=Dw dp dS DI cT dT bH bQ hA;rw[hA];go_wp2_with fail;rw[<-a7,<-d5.h];clear dc a7 bQ
   go_loopw [28] (fun v wr=> ∃j:Nat,j<=2/\v= Iz (j:Int)/\Hid (wr.ownsRow w.heap.size 171 6 (.slice (some ⟨gT,0,none⟩) N N) N (lC N (Kf tp n j))/\Bz w wr/\aE wr gI 3 #[Iz 1,Iz 2])) (fun v _=>2 - (intOf v).toNat)
   case atStart=>exact⟨0,ae,rfl,ao ⟨d2,d3,d4⟩⟩
   case round=>
    obtain⟨j,hj,rfl,HJ⟩:=hrel;obtain⟨I,hB,a8⟩:=HJ.h
    by_cases ba:j<2
    ·have y:Cz wr gI j (Iz ((j:Int)+1)):=by
      obtain rfl|rfl:j=0\/j=1:=ae
      ·exact a8.cell 0
      ·exact a8.cell 1
     have j1:(j:Int)<2:=ae;obtain⟨a0,HB,HD,ax⟩:=mh I hB a8 ba;go_wp2_with fail
     cases a2:M.side j with
     |nil=>
      refine(uA b M (C.Fs n) j ((j:Int)+1) wr (cn.below HB) ax rfl a2).mono ?_;rintro e w2⟨rfl,b2⟩;have ht:tp n j=none:=by rw[cm.h,ct.h,Fm a2]
      obtain⟨HT,bU⟩:=dF ht b2;clear a2 ht b2;go_wp2_with fail;go_roundw
      case rel=>
       refine⟨j+1,cA ax.h,by go_num,ao ⟨?_,?_,?_⟩⟩
       ·rw[<-Sp HT.h]
        exact bP a0 (au bU _)
       ·exact HB.trans ((au bU _).mono HB.size)
       ·exact HD.below (au bU _)
      case measure=>have:=ax.h;simp[intOf];omega
     |cons r lr=>
      refine(yI b M (C.Fs n) j ((j:Int)+1) r lr wr (cn.below HB) ax rfl a2).mono ?_;rintro e w2⟨rfl,b2⟩;have ht:tp n j=some (r.1,mq r.2):=by rw[cm.h,ct.h,Fo a2]
      obtain⟨w3,bb⟩:=Zn (w2.alloc (.cells #[Iz r.1,Iz (mq r.2),Iz (r.2.length:Int)] 75));obtain⟨g8,bV⟩:=Zn w2.heap.size;have D8:=Zq bb bV;have B3:Bz wr w3:=bb▸au b2 _;have O:=bP a0 B3;have cv:∀j,j=g8->j≠gT:=by
       rintro j rfl e;obtain⟨cur,hc⟩:=bY O (g:=gT) rfl;rw[<-e] at hc;exact jY D8 hc (by decide) rfl
      have ay:gI≠gT:=by
       rintro e;obtain⟨cur,hc⟩:=bY O (g:=gT) rfl;rw[<-e] at hc;exact jY (HD.below B3) hc (by decide) rfl
      obtain⟨T,eT⟩:=Zn (lC N (Kf tp n j));rw[<-eT] at O;have d6:T.length=N*6:=by rw[eT,ph]
      have d7:=bR.h;have ba:=ax.h;have q0:∃v,T[n*6+j]?=some v:=⟨_,aj ae⟩;have q1:∃v,T[n*6+(2+j)]?=some v:=⟨_,aj ae⟩;have q2:∃v,T[n*6+(4+j)]?=some v:=⟨_,aj ae⟩;obtain⟨v0,q0⟩:=q0;obtain⟨v1,q1⟩:=q1;obtain⟨v2,q2⟩:=q2;have o1:=jM O q0 (.bool true);have b0:(T.set (n*6+j) (.bool true))[n*6+(2+j)]?=some v1:=by rw[aZ ae];exact q1
      have o2:=jM o1 b0 (Iz r.1);have b7:((T.set (n*6+j) (.bool true)).set (n*6+(2+j)) (Iz r.1))[n*6+(4+j)]?=some v2:=by rw[aZ ae,aZ ae];exact q2
      have o3:=jM o2 b7 (Iz (mq r.2));rw[eT,PF d7 ba,So _ _ ht] at o3;have c0:=dI O q0;have c1:=dI o1 b0;have c2:=dI o2 b7;have f0:=fJ O (n*6+j);have f1:=fJ o1 (n*6+(2+j));have f2:=fJ o2 (n*6+(4+j));have d8:=dI O q1;have d9:=dI O q2;have ea:=fJ O (n*6+(2+j));have eb:=fJ O (n*6+(4+j));rw[<-bg] at c1 f1 c2 f2 d8 d9 ea eb;have b8:=bu bE.symm;have Bf:=(((HB.trans (B3.mono HB.size)).setCell b8 (p:=⟨gT,n*6+j,none⟩) (.bool true)).setCell b8 (p:=⟨gT,n*6+(2+j),none⟩) (Iz r.1)).setCell b8 (p:=⟨gT,n*6+(4+j),none⟩) (Iz (mq r.2));have Df:aE (((w3.setCell ⟨gT,n*6+j,none⟩ (.bool true)).setCell ⟨gT,n*6+(2+j),none⟩ (Iz r.1)).setCell ⟨gT,n*6+(4+j),none⟩ (Iz (mq r.2))) gI 3 #[Iz 1,Iz 2]:=by
       refine(HD.below B3).block ?_;rw[av _ _ _ _ ay,av _ _ _ _ ay,av _ _ _ _ ay]
      obtain⟨Fs,b9⟩:=Zn (fun j=>j=g8:Nat->Prop);have m8:Fs g8:=by rw[b9]
      have d0:∀u,aI Fs w3.drew u->Cz u g8 0 (Iz r.1):=fun u hu=>(hu.cell m8).trans (D8.cell 0);have d1:∀u,aI Fs w3.drew u->Cz u g8 1 (Iz (mq r.2)):=fun u hu=>(hu.cell m8).trans (D8.cell 1);have hs:∀(u:World) (i:Nat) (v:Value),aI Fs u (u.setCell ⟨gT,i,none⟩ v):=fun u i v k hk=>av _ _ _ _ (cv k (by rw[b9] at hk;exact hk));obtain⟨ed,ef,eg,cd⟩:=mh o3 Bf Df hs;clear q0 q1 q2 b0 b7 o1 o2 o3 Bf Df hs cv ay O B3 D8 b2 a2 ht eT d6 m8 b9;go_wp2_with fail;rw[<-bb,<-bV];clear bb bV;refine bx (R:=aI Fs) 99999 [16,20,24] [0,1,2,3,4,5,6,7,8,9,10,11,12,13,14,15,17,18,21,22,16,19,20,23,24] (by kernel_rfl) (aI.tr _) (aI.J _) (by kernel_rfl) (fun _ _ _ _ _ h=>h) ?_;refine Yt ?_;clear d0 d1;refine Ym fun K hK=>?_;refine Yo hK (cd _ _ _) ?_;refine Yt ?_;refine Ym fun K hK=>?_;refine Yo hK (cd _ _ _) ?_;refine Yt ?_;refine Ym fun K hK=>?_;refine Yo hK (cd _ _ _) ?_;refine aT ?_;go_wp2_with fail;go_roundw
      case rel=>
       have e1:n*6+2+j=n*6+(2+j):=bg ..;have e2:n*6+4+j=n*6+(4+j):=bg ..;rw[e1,e2];exact⟨j+1,cA ax.h,by go_num,ao ⟨aX ed fun _ _=>rfl,ef.drew,eg.drew⟩⟩
      case measure=>have:=ax.h;simp[intOf];omega
    ·obtain rfl:j=2:=ae
     obtain⟨a0,HB⟩:=dF I hB;clear I hB a8 HJ hj ba;go_wp2_with fail;go_roundw
     case rel=>exact⟨n+1,cA bR.h,by go_num,ao ⟨by rw[<-Uw];exact a0,HB⟩⟩
     case measure=>have:=bR.h;simp[intOf];omega
  ·obtain rfl:n=N:=ae
   rw[Ux] at I;obtain⟨a0,HB⟩:=dF I hB;clear I hB HM hn bH;go_wp2_with fail;go_ret;exact⟨_,n,rfl,a0,HB⟩
def Uy (o:Option Qt):Array Value:=match o with|some q=>q.arr|none=> #[Iz 0,Iz 0,Iz 0,Iz 0,Iz 0,Iz 0]
theorem PH (o:Option Qt):∃D a1 I a3 a4 J:Int,Uy o=#[Iz D,Iz a1,Iz I,Iz a3,Iz a4,Iz J]:=by
 cases o with
 |none=>exact⟨_,_,_,_,_,_,rfl⟩
 |some q=>exact⟨_,_,_,_,_,_,rfl⟩
theorem rI (A:Option Addr) (n c:Nat) (l:List Qt) (k:Nat) (s:Int) (w:World) (hn:l.length=n) (D:n<=1000) (hA:Cells w A (uD l)) (I:k<2) (hs:s=(k:Int)+1):
  Wz 100 #[.slice A n c,Iz s] w fun e w'=>e= .returned (.tuple #[.agg (Uy (nF k l)), .bool (nF k l).isSome])/\Bz w w':=by
 cases l with
 |nil=>
  subst hn;exact PB A c s w
 |cons q l=>exact PC A n c q l k s w (by rw[<-hn];rfl) D hA I hs
theorem uF (P:PD) (tp:kJ) (x k:Nat):(iq P tp x k).length<=1+2*P.n:=aF (qi _ _) (Cx P.n tp x k)
theorem qj.WD (h:qj w s P S C):GC (lU S):=by
 intro x k p q hx;unfold lU at hx
 cases D:S[x]? with
 |none=>rw[D] at hx;cases hx
 |some M=>
  rw[D] at hx;unfold yG at hx
  cases hs:M.side k with
  |nil=>simp only[hs] at hx;cases hx
  |cons r l=>
   simp only[hs] at hx;injection hx with hx;injection hx with h1 h2;have hr:r∈M.side k:=by rw[hs];simp
   have I:=h.pd.right.ag (h.pr x k M r D hr);have O:x<P.count:=by rw[<-h.sn];exact(az.1 D).1
   obtain⟨b,M',_,J,h5⟩:=h.book O;rw[D] at J;injection J with J;subst J;obtain⟨h6,h7,h8⟩:=h5.ok.lvl hr;have h9:=Gh fun e he=>⟨(h8 e he).1,(h8 e he).2.1⟩;subst h1 h2;exact⟨⟨I.1,I.2.1⟩,ae,ae⟩
def Jw (k:Nat) (a:Option (Int×Int)) (o:Option Qt):Option (Int×Int×Option Qt):=match a,o with
 |some r,some q=>if bz k q.ag r.1=true then some (q.ag,q.aw,some q) else some (r.1,r.2,none)
 |some r,none=>some (r.1,r.2,none)
 |none,some q=>some (q.ag,q.aw,some q)
 |none,none=>none
theorem CG (P:PD) (S:Sm) (x k:Nat):jZ P S x k=Jw k (lU S x k) (nF k (iq P (lU S) x k)):=rfl
def CH (o:Option (Int×Int×Option Qt)):Array Value:=match o with
 |none=> #[.agg #[Iz 0,Iz 0,Iz 0,Iz 0,Iz 0,Iz 0], .bool false, .bool false]
 |some (p,q,none)=> #[.agg #[Iz p,Iz q,Iz 0,Iz 0,Iz 0,Iz 0], .bool false, .bool true]
 |some (_,_,some q)=> #[q.val, .bool true, .bool true]
theorem PI (s:Nat) (P:PD) (S:Sm) (G R:Nat->Prop) (x k:Nat) (sd:Int) (w:World) (h:dR w G R s P S) (hx:x<P.count) (hk:k<2) (bE:sd=(k:Int)+1):
  Calls Tryz.prog 102 #[.pointer (some ⟨s,0,none⟩), .int .i64 (x:Int), .int .i64 sd] w fun e w'=>e= .returned (.tuple (CH (jZ P S x k)))/\Below w.heap.size w w':=by
 have ey:=h;obtain⟨C,hS,f6,f7,hR⟩:=h;have eA:=hS.pd.right.cnt;obtain⟨b,M,hb,hM,hB⟩:=hS.book hx;obtain⟨gA,hA,hp⟩:=mB hS.ob hb;obtain⟨L,eL⟩:=Zn (iq P (lU S) x k);have eB:L.length<=1000:=by rw[eL];have:=uF P (lU S) x k;omega
 obtain⟨o,eo⟩:=Zn (nF k L);obtain⟨a0,a1,a2,a3,a4,a5,ea⟩:=PH o;obtain⟨zb,eC⟩:=Zn o.isSome;have ck:=hS.WD;have fa:gA<w.heap.size:=(hS.ob.lt gA (by rw[hA];rfl)).2;obtain⟨wA,cT⟩:=Zn (w.alloc (.cells #[.int .i64 0, .int .i64 0, .int .i64 0, .int .i64 0, .int .i64 0, .int .i64 0] 178));obtain⟨g6,cX⟩:=Zn w.heap.size;have D6:aE wA g6 178 #[.int .i64 0, .int .i64 0, .int .i64 0, .int .i64 0, .int .i64 0, .int .i64 0]:=by rw[cT,cX];exact heap_alloc_new _ _
 have BA:Below w.heap.size w wA:=by rw[cT];exact au (aa _ _) _
 have cl:qj wA s P S C:=hS.same (fun k hk=>BA.block k (hS.Pt k hk)) (fun y k hk=>BA.block k (hS.NG y k hk)) (fun k hk=>BA.block k (hS.Ps k hk)) BA.size;obtain⟨S0,ek⟩:=Zn wA.heap.size;have ff:s<S0:=by rw[ek];exact cl.D.lt
 obtain⟨k0,k1,k2,k3,k4,k5,k6,k7,k8,k9,eD,fi,fk⟩:=cl.gX;have st:∀{u:World} {i:Nat} {v:Value},Below S0 wA.drew u->wA.cell? ⟨s,i,none⟩=some v->u.cell? ⟨s,i,none⟩=some v:=fun {u i v} hu hv=>Yb hu ff hv;have d0:=fun u (hu:Below S0 wA.drew u)=>st hu k0;have d1:=fun u (hu:Below S0 wA.drew u)=>st hu k1;have d2:=fun u (hu:Below S0 wA.drew u)=>st hu k2;have d3:=fun u (hu:Below S0 wA.drew u)=>st hu k3;have d4:=fun u (hu:Below S0 wA.drew u)=>st hu k4;have d5:=fun u (hu:Below S0 wA.drew u)=>st hu k5;have d6:=fun u (hu:Below S0 wA.drew u)=>st hu k6;have d7:=fun u (hu:Below S0 wA.drew u)=>st hu k7;have d8:=fun u (hu:Below S0 wA.drew u)=>st hu k8;have d9:=fun u (hu:Below S0 wA.drew u)=>st hu k9;have eE:=fun u (hu:Below S0 wA.drew u)=>st hu eD;have eF:=ao (ey.below BA);have el:=ao cl.pd;have c0:=ao cl;have HB:=ao (hB.below BA);have HM:=ao hM;have fq:=ao hb;have HA:=ao hA;have EL:=ao eL;have EO:=ao eo;have EA:=ao ea;have EZ:=ao eC;have ep:=ao ck;have bt:=ao bE;have HX:=ao hx;have bf:=ao D6;have eG:=ao BA;have ax:=ao ek;have eI:=ao cX;have dc:=ao eB;have f8:=ao eA;clear ey hS hB hM hb hA eL eo ea eC ck bE hx D6 BA cl ek hp fa eB st k0 k1 k2 k3 k4 k5 k6 k7 k8 k9 eD fi fk eA
 go_enter Tryz.func102,Tryz.ntmps102
 go_upto_region 1 with(fail)
 rw[<-cT,<-cX];clear cT cX
 go_cut [9,10] (fun v v' wx=>v'= .bool zb/\∃g9,v= .pointer (some ⟨g9,0,none⟩)/\Hid (aE wx g9 178 #[.int .i64 a0, .int .i64 a1, .int .i64 a2, .int .i64 a3, .int .i64 a4, .int .i64 a5]/\Below S0 wA wx/\S0<=g9))
 case first=>
  refine Zy S0 17 ?_;refine Zr [0,1,2,3,4,6,7,9] 9 ?_;refine Yr ?_;clear d0 d1 d2 d3 d4 d5 d6 d7 d8 d9 eE;refine Zf [5,14] 8 ?_;refine Zo (fun K hK=>?_) ?_
  ·go_simp
   refine(vr s P S G R _ (eF.h.below (aS (aa _ _):Below wA.heap.size wA wA.drew))).mono ?_;rintro e w1⟨A1,c1,rfl,J,b1⟩;have I:Below S0 wA.drew w1:=b1.mono (bu ax.h);have BN:Below S0 wA w1:=(aa _ _).drew.trans I;have eJ:=ao (dP.O J);have bH:=ao BN;refine Yo hK (I) ?_;clear b1 I BN J;refine Zf [8,14] 7 ?_;refine Zo (fun K hK=>?_) ?_
   ·go_simp
    refine(pV P C.ma C.mc C.sa C.sc A1 c1 (lU S) x k sd _ (el.h.below (show Below wA.heap.size wA w1 by rw[<-ax.h];exact bH.h)) eJ.h HX.h hk bt.h ep.h).mono ?_;rintro e w2⟨A2,c2,rfl,J,b1⟩;rw[<-EL.h] at J⊢;have I:Below S0 w1 w2:=b1.mono (by have:=bH.h.size;have:=ax.h;omega);have BN:Below S0 wA w2:=bH.h.trans I;have eK:=ao (dP.O J);have cf:=ao BN;refine Yo hK (I) ?_;clear b1 I BN J;refine Zf [10,14] 6 ?_;refine Zo (fun K hK=>?_) ?_
    ·go_simp
     refine(rI A2 _ c2 L k sd _ rfl dc.h eK.h hk bt.h).mono ?_;rintro e w3⟨rfl,b1⟩;rw[<-EO.h,EA.h,<-EZ.h];have I:Below S0 w2 w3:=b1.mono (by have:=cf.h.size;have:=ax.h;omega);have BN:Below S0 wA w3:=cf.h.trans I;have ef:=ao BN;refine Yo hK (I) ?_;clear b1 I BN;refine Zr [11,12,13] 3 ?_;refine Yr ?_;refine Zf [14] 2 ?_;refine Zo (fun K hK=>?_) ?_
     ·go_simp
      have a8:S0<=w3.heap.size:=by have:=ef.h.size;have:=ax.h;omega
      refine Yo hK (iV (aa _ _) a8 _) ?_;have fx:Hid (∀o o':Obj,Below S0 (w3.alloc o) (w3.alloc o')):=ao fun o o'=>qD a8 o o';have eM:Hid (S0<=w3.heap.size):=ao a8;clear a8;refine Zf [15] 1 ?_;refine Zo (fun K hK=>?_) ?_
      ·go_simp
       refine Yo hK (fx.h _ _) ?_;refine Zr [16] 0 ?_;refine Yr ?_;refine Ze ?_;go_wp2_with fail;go_meet;exact⟨by first|rfl|skip,_,rfl,ao ⟨aE.new _ _ _,ef.h.alloc (by exact eM.h) _,eM.h⟩⟩
      exact aQ
     exact aQ
    refine Zo (fun K hK=>?_) ?_
    ·go_simp
     have a8:S0<=w2.heap.size:=by have:=cf.h.size;have:=ax.h;omega
     refine Yo hK (iV (aa _ _) a8 _) ?_;obtain⟨w5,a6⟩:=Zn (w2.alloc (.cells #[.int .i64 0, .int .i64 0, .int .i64 0, .int .i64 0, .int .i64 0, .int .i64 0] 178));obtain⟨cm,ba⟩:=Zn w2.heap.size;have DN:aE w5 cm 178 #[.int .i64 0, .int .i64 0, .int .i64 0, .int .i64 0, .int .i64 0, .int .i64 0]:=by rw[a6,ba];exact aE.new w2 _ _
     have BN:Below S0 wA w5:=by rw[a6];exact cf.h.alloc a8 _
     have bh:Hid (S0<=cm):=ao (by rw[ba];exact a8);have BL:Below w2.heap.size w2 w5:=by rw[a6];exact au (aa _ _) _
     have fz:=ao (eK.h.below BL);rw[<-a6,<-ba];have fH:=ao DN;have eg:=ao BN;clear a6 ba DN BN BL a8;refine Zf [10] 5 ?_;refine Zo (fun K hK=>?_) ?_
     ·go_simp
      refine(rI A2 _ c2 L k sd _ rfl dc.h fz.h hk bt.h).mono ?_;rintro e w6⟨rfl,b1⟩;rw[<-EO.h,EA.h,<-EZ.h];have I:Below S0 w5 w6:=b1.mono (by have:=eg.h.size;have:=ax.h;omega);have BN:Below S0 wA w6:=eg.h.trans I;have bf:=ao (fH.h.below b1);have eO:=ao BN;refine Yo hK (I) ?_;clear b1 I BN;have z0:=bf.h.cell 0;have z1:=bf.h.cell 1;have z2:=bf.h.cell 2;have z3:=bf.h.cell 3;have z4:=bf.h.cell 4;have z5:=bf.h.cell 5;obtain⟨y0,y1,y2,y3,y4,y5⟩:=bf.h.oD;have hw:=bO (us:=[.int .i64 a0, .int .i64 a1, .int .i64 a2, .int .i64 a3, .int .i64 a4, .int .i64 a5]) bf.h rfl;have hb:=bA (us:=[.int .i64 a0, .int .i64 a1, .int .i64 a2, .int .i64 a3, .int .i64 a4, .int .i64 a5]) (i:=0) bh.h eO.h;have I:=bA (us:=[.int .i64 a0, .int .i64 a1, .int .i64 a2, .int .i64 a3, .int .i64 a4, .int .i64 a5]) (i:=0) bh.h (aa S0 w6);simp only[fW] at hw hb I;have HW:=ao hw;have HB:=ao hb;have cn:=ao I;clear hw hb I;refine Zr [11,12,13] 2 ?_;refine Yr ?_;refine Zf [15] 1 ?_;refine Zo (fun K hK=>?_) ?_
      ·go_simp
       refine Yo hK (cn.h) ?_;refine Zr [16] 0 ?_;refine Yr ?_;refine Ze ?_;clear z0 z1 z2 z3 z4 z5 y0 y1 y2 y3 y4 y5;go_wp2_with fail;go_meet;exact⟨rfl,cm,rfl,ao ⟨HW.h,HB.h,bh.h⟩⟩
      exact aQ
     exact aQ
    exact aQ
   refine Zo (fun K hK=>?_) ?_
   ·go_simp
    have a8:S0<=w1.heap.size:=by have:=bH.h.size;have:=ax.h;omega
    refine Yo hK (iV (aa _ _) a8 _) ?_;obtain⟨w7,a6⟩:=Zn (w1.alloc (.cells #[.int .i64 0, .int .i64 0, .int .i64 0, .int .i64 0, .int .i64 0, .int .i64 0] 178));obtain⟨ct,ba⟩:=Zn w1.heap.size;have DN:aE w7 ct 178 #[.int .i64 0, .int .i64 0, .int .i64 0, .int .i64 0, .int .i64 0, .int .i64 0]:=by rw[a6,ba];exact aE.new w1 _ _
    have BN:Below S0 wA w7:=by rw[a6];exact bH.h.alloc a8 _
    have bh:Hid (S0<=ct):=ao (by rw[ba];exact a8);have BL:Below w1.heap.size w1 w7:=by rw[a6];exact au (aa _ _) _
    have fT:=ao (eJ.h.below BL);rw[<-a6,<-ba];have f0:=ao DN;have cv:=ao BN;clear a6 ba DN BN BL a8;refine Zf [8] 6 ?_;refine Zo (fun K hK=>?_) ?_
    ·go_simp
     refine(pV P C.ma C.mc C.sa C.sc A1 c1 (lU S) x k sd _ (el.h.below (show Below wA.heap.size wA w7 by rw[<-ax.h];exact cv.h)) fT.h HX.h hk bt.h ep.h).mono ?_;rintro e w8⟨A2,c2,rfl,J,b1⟩;rw[<-EL.h] at J⊢;have I:Below S0 w7 w8:=b1.mono (by have:=cv.h.size;have:=ax.h;omega);have BN:Below S0 wA w8:=cv.h.trans I;have f1:=ao (dP.O J);have f2:=ao (f0.h.below b1);have ei:=ao BN;refine Yo hK (I) ?_;clear b1 I BN J;refine Zf [10] 5 ?_;refine Zo (fun K hK=>?_) ?_
     ·go_simp
      refine(rI A2 _ c2 L k sd _ rfl dc.h f1.h hk bt.h).mono ?_;rintro e w9⟨rfl,b1⟩;rw[<-EO.h,EA.h,<-EZ.h];have I:Below S0 w8 w9:=b1.mono (by have:=ei.h.size;have:=ax.h;omega);have BN:Below S0 wA w9:=ei.h.trans I;have bQ:=ao (f2.h.below b1);have eP:=ao BN;refine Yo hK (I) ?_;clear b1 I BN;have z0:=bQ.h.cell 0;have z1:=bQ.h.cell 1;have z2:=bQ.h.cell 2;have z3:=bQ.h.cell 3;have z4:=bQ.h.cell 4;have z5:=bQ.h.cell 5;obtain⟨y0,y1,y2,y3,y4,y5⟩:=bQ.h.oD;have hw:=bO (us:=[.int .i64 a0, .int .i64 a1, .int .i64 a2, .int .i64 a3, .int .i64 a4, .int .i64 a5]) bQ.h rfl;have hb:=bA (us:=[.int .i64 a0, .int .i64 a1, .int .i64 a2, .int .i64 a3, .int .i64 a4, .int .i64 a5]) (i:=0) bh.h eP.h;have I:=bA (us:=[.int .i64 a0, .int .i64 a1, .int .i64 a2, .int .i64 a3, .int .i64 a4, .int .i64 a5]) (i:=0) bh.h (aa S0 w9);simp only[fW] at hw hb I;have HW:=ao hw;have HB:=ao hb;have cn:=ao I;clear hw hb I;refine Zr [11,12,13] 2 ?_;refine Yr ?_;refine Zf [15] 1 ?_;refine Zo (fun K hK=>?_) ?_
      ·go_simp
       refine Yo hK (cn.h) ?_;refine Zr [16] 0 ?_;refine Yr ?_;refine Ze ?_;clear z0 z1 z2 z3 z4 z5 y0 y1 y2 y3 y4 y5;go_wp2_with fail;go_meet;exact⟨rfl,ct,rfl,ao ⟨HW.h,HB.h,bh.h⟩⟩
      exact aQ
     exact aQ
    exact aQ
   exact aQ
  refine Zo (fun K hK=>?_) ?_
  ·go_simp
   refine Yo hK ((by rw[ax.h];exact fo wA _)) ?_;obtain⟨dp,a6⟩:=Zn ((wA.alloc (.cells #[.int .i64 0, .int .i64 0, .int .i64 0, .int .i64 0, .int .i64 0, .int .i64 0] 178)).drew);obtain⟨cF,ba⟩:=Zn wA.heap.size;have DN:aE dp cF 178 #[.int .i64 0, .int .i64 0, .int .i64 0, .int .i64 0, .int .i64 0, .int .i64 0]:=by rw[a6,ba];exact(aE.new wA _ _).drew
   have BN:Below S0 wA dp:=by rw[a6,ax.h];exact aS (au (aa _ _) _)
   have bh:Hid (S0<=cF):=ao (by rw[ba,ax.h];exact af _);rw[<-a6,<-ba];have eQ:=ao DN;have b8:=ao BN;clear a6 ba DN BN;refine Zf [5] 7 ?_;refine Zo (fun K hK=>?_) ?_
   ·go_simp
    refine(vr s P S G R _ (eF.h.below (show Below wA.heap.size wA dp by rw[<-ax.h];exact b8.h))).mono ?_;rintro e dS⟨A1,c1,rfl,J,b1⟩;have I:Below S0 dp dS:=b1.mono (by have:=b8.h.size;have:=ax.h;omega);have BN:Below S0 wA dS:=b8.h.trans I;have eR:=ao (dP.O J);have eS:=ao (eQ.h.below b1);have b9:=ao BN;refine Yo hK (I) ?_;clear b1 I BN J;refine Zf [8] 6 ?_;refine Zo (fun K hK=>?_) ?_
    ·go_simp
     refine(pV P C.ma C.mc C.sa C.sc A1 c1 (lU S) x k sd _ (el.h.below (show Below wA.heap.size wA dS by rw[<-ax.h];exact b9.h)) eR.h HX.h hk bt.h ep.h).mono ?_;rintro e er⟨A2,c2,rfl,J,b1⟩;rw[<-EL.h] at J⊢;have I:Below S0 dS er:=b1.mono (by have:=b9.h.size;have:=ax.h;omega);have BN:Below S0 wA er:=b9.h.trans I;have eT:=ao (dP.O J);have eU:=ao (eS.h.below b1);have cH:=ao BN;refine Yo hK (I) ?_;clear b1 I BN J;refine Zf [10] 5 ?_;refine Zo (fun K hK=>?_) ?_
     ·go_simp
      refine(rI A2 _ c2 L k sd _ rfl dc.h eT.h hk bt.h).mono ?_;rintro e et⟨rfl,b1⟩;rw[<-EO.h,EA.h,<-EZ.h];have I:Below S0 er et:=b1.mono (by have:=cH.h.size;have:=ax.h;omega);have BN:Below S0 wA et:=cH.h.trans I;have bc:=ao (eU.h.below b1);have eu:=ao BN;refine Yo hK (I) ?_;clear b1 I BN;have z0:=bc.h.cell 0;have z1:=bc.h.cell 1;have z2:=bc.h.cell 2;have z3:=bc.h.cell 3;have z4:=bc.h.cell 4;have z5:=bc.h.cell 5;obtain⟨y0,y1,y2,y3,y4,y5⟩:=bc.h.oD;have hw:=bO (us:=[.int .i64 a0, .int .i64 a1, .int .i64 a2, .int .i64 a3, .int .i64 a4, .int .i64 a5]) bc.h rfl;have hb:=bA (us:=[.int .i64 a0, .int .i64 a1, .int .i64 a2, .int .i64 a3, .int .i64 a4, .int .i64 a5]) (i:=0) bh.h eu.h;have I:=bA (us:=[.int .i64 a0, .int .i64 a1, .int .i64 a2, .int .i64 a3, .int .i64 a4, .int .i64 a5]) (i:=0) bh.h (aa S0 et);simp only[fW] at hw hb I;have HW:=ao hw;have HB:=ao hb;have cn:=ao I;clear hw hb I;refine Zr [11,12,13] 2 ?_;refine Yr ?_;refine Zf [15] 1 ?_;refine Zo (fun K hK=>?_) ?_
      ·go_simp
       refine Yo hK (cn.h) ?_;refine Zr [16] 0 ?_;refine Yr ?_;refine Ze ?_;clear z0 z1 z2 z3 z4 z5 y0 y1 y2 y3 y4 y5;go_wp2_with fail;go_meet;exact⟨rfl,cF,rfl,ao ⟨HW.h,HB.h,bh.h⟩⟩
      exact aQ
     exact aQ
    exact aQ
   exact aQ
  exact aQ
 obtain⟨rfl,g9,rfl,HC⟩:=hcut;clear d0 d1 d2 d3 d4 d5 d6 d7 d8 d9 eE;obtain⟨E9,EB,f3⟩:=HC.h;have bR:Below wA.heap.size wA wc:=by rw[<-ax.h];exact EB
 have dT:qj wc s P S C:=c0.h.same (fun k hk=>bR.block k (c0.h.Pt k hk)) (fun y k hk=>bR.block k (c0.h.NG y k hk)) (fun k hk=>bR.block k (c0.h.Ps k hk)) bR.size;have eb:wc.cell? ⟨s,11,none⟩=some (.slice C.A C.bs.length C.c):=dT.D.cell 11;obtain⟨f9,eV,eW⟩:=mB dT.ob fq.h;rw[eV] at eb;obtain⟨N,eN⟩:=Zn C.bs.length;rw[<-eN] at eb;have gi:(x:Int)<N:=by rw[eN,dT.bn];have:=HX.h;omega
 have eY:=ao (HB.h.below bR);have eZ:=ao E9;have e0:=ao bR;have gj:=ao eN;have ej:=ao (bf.h.below bR);have e3:g9≠g6:=by have h1:=bf.h.lt;have h2:=ax.h;omega
 have gq:=ao e3;clear E9 EB bR f3 dT eN HC eV e3;have e4:jZ P S x k=Jw k (yG M k) o:=by rw[CG,Sr HM.h,<-EL.h,<-EO.h]
 have ed:=ao e4;clear e4;go_wp2_with fail
 cases bE:M.side k with
 |nil=>
  refine(uA b M (C.Fs x) k sd wc eY.h hk bt.h bE).mono ?_;rintro e w2⟨rfl,b2⟩;have ht:=Fm bE;obtain⟨w3,bU⟩:=Zn (w2.alloc (.cells #[.int .i64 0, .int .i64 0, .int .i64 0] 75));have B3:Below wc.heap.size wc w3:=by rw[bU];exact au b2 _
  have a7:=eZ.h.below B3;have ay:=ej.h.below B3;have p0:=a7.cell 0;have p1:=a7.cell 1;have p2:=a7.cell 2;have p3:=a7.cell 3;have p4:=a7.cell 4;have p5:=a7.cell 5;have z0:=ay.cell 0;have z1:=ay.cell 1;have z2:=ay.cell 2;have z3:=ay.cell 3;have z4:=ay.cell 4;have z5:=ay.cell 5;obtain⟨y0,y1,y2,y3,y4,y5⟩:=ay.oD;have bV:=ao ay;have HT:=ao ht;have b0:=ao (dW (dW eG.h e0.h) B3);have b7:Hid (w.heap.size<=g6):=ao (by rw[eI.h];exact af _);clear a7 ay B3 b2 ht bE eb eW
  go_upto_region 3 with(fail)
  rw[<-bU];clear bU;have hw:=bO (us:=[.int .i64 a0, .int .i64 a1, .int .i64 a2, .int .i64 a3, .int .i64 a4, .int .i64 a5]) bV.h rfl;have hb:=bA (us:=[.int .i64 a0, .int .i64 a1, .int .i64 a2, .int .i64 a3, .int .i64 a4, .int .i64 a5]) (i:=0) b7.h b0.h;simp only[fW] at hw hb;have HW:=ao hw;have cd:=ao hb;clear hw hb;go_wp2_with fail
  (try simp only[Exit.inBlock,Exit.then])
  obtain⟨wf,bp⟩:=Zn ((((((w3.setCell ⟨g6,0,none⟩ (.int .i64 a0)).setCell ⟨g6,0+1,none⟩ (.int .i64 a1)).setCell ⟨g6,0+1+1,none⟩ (.int .i64 a2)).setCell ⟨g6,0+1+1+1,none⟩ (.int .i64 a3)).setCell ⟨g6,0+1+1+1+1,none⟩ (.int .i64 a4)).setCell ⟨g6,0+1+1+1+1+1,none⟩ (.int .i64 a5));have hw:=HW.h;have hb:=cd.h;rw[<-bp] at hw hb;refine iv bp ?_;have r0:=hw.cell 0;have r1:=hw.cell 1;have r2:=hw.cell 2;have r3:=hw.cell 3;have r4:=hw.cell 4;have r5:=hw.cell 5;clear z0 z1 z2 z3 z4 z5 y0 y1 y2 y3 y4 y5 p0 p1 p2 p3 p4 p5;have bb:CH (jZ P S x k)=#[.agg #[.int .i64 a0, .int .i64 a1, .int .i64 a2, .int .i64 a3, .int .i64 a4, .int .i64 a5], .bool zb, .bool zb]:=by
   rw[ed.h,HT.h,<-EA.h,EZ.h]
   cases o<;>rfl
  rw[bb];refine bodyPost_ret (v:= .tuple #[.agg #[.int .i64 a0, .int .i64 a1, .int .i64 a2, .int .i64 a3, .int .i64 a4, .int .i64 a5], .bool zb, .bool zb]) (by simp[results,Tryz.results102,go_sem,r0,r1,r2,r3,r4,r5];try rfl) rfl ?_;exact⟨rfl,hb⟩
 |cons r lr=>
  refine(yI b M (C.Fs x) k sd r lr wc eY.h hk bt.h bE).mono ?_;rintro e w2⟨rfl,b2⟩;have ht:=Fo bE;obtain⟨q2,e5⟩:=Zn (mq r.2);rw[<-e5] at ht⊢;obtain⟨w3,bU⟩:=Zn (w2.alloc (.cells #[.int .i64 r.1, .int .i64 q2, .int .i64 (r.2.length:Int)] 75));obtain⟨f4,cQ⟩:=Zn w2.heap.size;have ew:aE w3 f4 75 #[.int .i64 r.1, .int .i64 q2, .int .i64 (r.2.length:Int)]:=by rw[bU,cQ];exact heap_alloc_new _ _
  have B3:Below wc.heap.size wc w3:=by rw[bU];exact au b2 _
  have a7:=eZ.h.below B3;have ay:=ej.h.below B3;have p0:=a7.cell 0;have p1:=a7.cell 1;have p2:=a7.cell 2;have p3:=a7.cell 3;have p4:=a7.cell 4;have p5:=a7.cell 5;have z0:=ay.cell 0;have z1:=ay.cell 1;have z2:=ay.cell 2;have z3:=ay.cell 3;have z4:=ay.cell 4;have z5:=ay.cell 5;obtain⟨y0,y1,y2,y3,y4,y5⟩:=ay.oD;have l0:=ew.cell 0;have l1:=ew.cell 1;have bV:=ao ay;have HT:=ao ht;have b0:=ao (dW (dW eG.h e0.h) B3);have b7:Hid (w.heap.size<=g6):=ao (by rw[eI.h];exact af _);clear a7 ay B3 b2 ht bE eb eW ew e5
  go_upto_region 3 with(fail)
  rw[<-bU,<-cQ];clear bU cQ
  cases o with
  |none=>
   obtain rfl:zb=false:=EZ.h;have bb:CH (jZ P S x k)=#[.agg #[.int .i64 r.1, .int .i64 q2, .int .i64 0, .int .i64 0, .int .i64 0, .int .i64 0], .bool false, .bool true]:=by rw[ed.h,HT.h];rfl
   have hw:=bO (us:=[.int .i64 r.1, .int .i64 q2, .int .i64 0, .int .i64 0, .int .i64 0, .int .i64 0]) bV.h rfl;have hb:=bA (us:=[.int .i64 r.1, .int .i64 q2, .int .i64 0, .int .i64 0, .int .i64 0, .int .i64 0]) (i:=0) b7.h b0.h;simp only[fW] at hw hb;have HW:=ao hw;have cd:=ao hb;clear hw hb;go_wp2_with fail
   (try simp only[Exit.inBlock,Exit.then])
   obtain⟨wf,bp⟩:=Zn ((((((w3.setCell ⟨g6,0,none⟩ (.int .i64 r.1)).setCell ⟨g6,0+1,none⟩ (.int .i64 q2)).setCell ⟨g6,0+1+1,none⟩ (.int .i64 0)).setCell ⟨g6,0+1+1+1,none⟩ (.int .i64 0)).setCell ⟨g6,0+1+1+1+1,none⟩ (.int .i64 0)).setCell ⟨g6,0+1+1+1+1+1,none⟩ (.int .i64 0));have hw:=HW.h;have hb:=cd.h;rw[<-bp] at hw hb;refine iv bp ?_;have r0:=hw.cell 0;have r1:=hw.cell 1;have r2:=hw.cell 2;have r3:=hw.cell 3;have r4:=hw.cell 4;have r5:=hw.cell 5;clear z0 z1 z2 z3 z4 z5 y0 y1 y2 y3 y4 y5 p0 p1 p2 p3 p4 p5;rw[bb];refine bodyPost_ret (v:= .tuple #[.agg #[.int .i64 r.1, .int .i64 q2, .int .i64 0, .int .i64 0, .int .i64 0, .int .i64 0], .bool false, .bool true]) (by simp[results,Tryz.results102,go_sem,r0,r1,r2,r3,r4,r5];try rfl) rfl ?_;exact⟨rfl,hb⟩
  |some q=>
   obtain rfl:zb=true:=EZ.h;have ha:q.arr=#[.int .i64 a0, .int .i64 a1, .int .i64 a2, .int .i64 a3, .int .i64 a4, .int .i64 a5]:=EA.h;have e6:q.ag=a0:=by
    have h1:=congrArg (fun a=>a[0]?) ha;simp[Qt.arr] at h1;exact h1
   have e7:=ao e6;have f5:=ao ha;clear ha e6;go_wp2_with fail;refine(pK sd a0 r.1 k bt.h w3).mono ?_;rintro e u⟨rfl,rfl⟩;obtain⟨z,ez⟩:=Zn (bz k a0 r.1);rw[<-ez];have e9:=ao ez;clear ez
   cases z
   ·have bb:CH (jZ P S x k)=#[.agg #[.int .i64 r.1, .int .i64 q2, .int .i64 0, .int .i64 0, .int .i64 0, .int .i64 0], .bool false, .bool true]:=by
     rw[ed.h,HT.h];unfold Jw;simp only;rw[e7.h,<-e9.h,if_neg (by simp)];rfl
    have cS:=ao bb;clear bb;have hw:=bO (us:=[.int .i64 r.1, .int .i64 q2, .int .i64 0, .int .i64 0, .int .i64 0, .int .i64 0]) bV.h rfl;have hb:=bA (us:=[.int .i64 r.1, .int .i64 q2, .int .i64 0, .int .i64 0, .int .i64 0, .int .i64 0]) (i:=0) b7.h b0.h;simp only[fW] at hw hb;have HW:=ao hw;have cd:=ao hb;clear hw hb;go_wp2_with fail
    (try simp only[Exit.inBlock,Exit.then])
    obtain⟨wf,bp⟩:=Zn ((((((w3.setCell ⟨g6,0,none⟩ (.int .i64 r.1)).setCell ⟨g6,0+1,none⟩ (.int .i64 q2)).setCell ⟨g6,0+1+1,none⟩ (.int .i64 0)).setCell ⟨g6,0+1+1+1,none⟩ (.int .i64 0)).setCell ⟨g6,0+1+1+1+1,none⟩ (.int .i64 0)).setCell ⟨g6,0+1+1+1+1+1,none⟩ (.int .i64 0));have hw:=HW.h;have hb:=cd.h;rw[<-bp] at hw hb;refine iv bp ?_;have r0:=hw.cell 0;have r1:=hw.cell 1;have r2:=hw.cell 2;have r3:=hw.cell 3;have r4:=hw.cell 4;have r5:=hw.cell 5;clear z0 z1 z2 z3 z4 z5 y0 y1 y2 y3 y4 y5 p0 p1 p2 p3 p4 p5;rw[cS.h];refine bodyPost_ret (v:= .tuple #[.agg #[.int .i64 r.1, .int .i64 q2, .int .i64 0, .int .i64 0, .int .i64 0, .int .i64 0], .bool false, .bool true]) (by simp[results,Tryz.results102,go_sem,r0,r1,r2,r3,r4,r5];try rfl) rfl ?_;exact⟨rfl,hb⟩
   ·have bb:CH (jZ P S x k)=#[.agg #[.int .i64 a0, .int .i64 a1, .int .i64 a2, .int .i64 a3, .int .i64 a4, .int .i64 a5], .bool true, .bool true]:=by
     rw[ed.h,HT.h];unfold Jw;simp only;rw[e7.h,<-e9.h,if_pos rfl,<-f5.h];rfl
    have cS:=ao bb;clear bb;have hw:=bO (us:=[.int .i64 a0, .int .i64 a1, .int .i64 a2, .int .i64 a3, .int .i64 a4, .int .i64 a5]) bV.h rfl;have hb:=bA (us:=[.int .i64 a0, .int .i64 a1, .int .i64 a2, .int .i64 a3, .int .i64 a4, .int .i64 a5]) (i:=0) b7.h b0.h;simp only[fW] at hw hb;have HW:=ao hw;have cd:=ao hb;clear hw hb;go_wp2_with fail
    (try simp only[Exit.inBlock,Exit.then])
    obtain⟨wf,bp⟩:=Zn ((((((w3.setCell ⟨g6,0,none⟩ (.int .i64 a0)).setCell ⟨g6,0+1,none⟩ (.int .i64 a1)).setCell ⟨g6,0+1+1,none⟩ (.int .i64 a2)).setCell ⟨g6,0+1+1+1,none⟩ (.int .i64 a3)).setCell ⟨g6,0+1+1+1+1,none⟩ (.int .i64 a4)).setCell ⟨g6,0+1+1+1+1+1,none⟩ (.int .i64 a5));have hw:=HW.h;have hb:=cd.h;rw[<-bp] at hw hb;refine iv bp ?_;have r0:=hw.cell 0;have r1:=hw.cell 1;have r2:=hw.cell 2;have r3:=hw.cell 3;have r4:=hw.cell 4;have r5:=hw.cell 5;clear z0 z1 z2 z3 z4 z5 y0 y1 y2 y3 y4 y5 p0 p1 p2 p3 p4 p5;rw[cS.h];refine bodyPost_ret (v:= .tuple #[.agg #[.int .i64 a0, .int .i64 a1, .int .i64 a2, .int .i64 a3, .int .i64 a4, .int .i64 a5], .bool true, .bool true]) (by simp[results,Tryz.results102,go_sem,r0,r1,r2,r3,r4,r5];try rfl) rfl ?_;exact⟨rfl,hb⟩
theorem Tryz.Ss:(Tryz.prog.info? 186).map (fun i=>(i.zero,i.size,i.bytes))=some (some (.agg #[Iz 0,Iz 0, .bool false, .slice none 0 0]),4,48):=by kernel_rfl
theorem WE:kA Tryz.prog 127 186 (.agg #[Iz 0,Iz 0, .bool false, .slice none 0 0]) 4 48:=
 ⟨Tryz.underlying127,let ⟨i,h,D,I,J⟩:=info_parts Tryz.Ss;⟨i,h,D,I,J⟩,rfl,ae,ae⟩
structure zJ where
 st:jz
 A:Option Addr
 c:Nat
variable {L:List zJ}
def zJ.v (y:zJ):Value:= .slice y.A y.st.U.length y.c
def zJ.cells (y:zJ):List Value:=[Iz y.st.ag,Iz y.st.aw, .bool y.st.imp,y.v]
theorem zJ.bG (y:zJ):y.cells.length=4:=rfl
def uI (L:List zJ):List Value:=L.flatMap zJ.cells
theorem Jy (L:List zJ) (y:zJ):uI (L++[y])=uI L++y.cells:=by simp[uI]
structure vu (B:Nat) (w:World) (Gm:Nat→Prop) (v:Value) (L:List zJ):Prop where
 row:w.ownsRow B 186 4 v L.length (uI L)
 off:∀g,v.ownBlock=some g→¬Gm g
 fl:∀y∈L,w.ownsRow B 240 6 y.v y.st.U.length (gW y.st.U)∧∀g,y.v.ownBlock=some g→¬Gm g
theorem vu.same {B:Nat} {w':World} {D:Nat->Prop} {v:Value} (h:vu B w Gm v L) (hs:∀g,g<w.heap.size->¬Gm g->w'.heap[g]?=w.heap[g]?) (hG:∀g,D g->Gm g\/w.heap.size<=g):vu B w' D v L:=
 ⟨aX h.row fun g hg=>hs g (h.row.lt g hg).2 (h.off g hg),fun g hg O=>by rcases hG g O with I|I;exact h.off g hg I;have:=(h.row.lt g hg).2;omega,
  fun y J=>⟨aX (h.fl y J).1 fun g hg=>hs g ((h.fl y J).1.lt g hg).2 ((h.fl y J).2 g hg),fun g hg O=>by rcases hG g O with I|I;exact(h.fl y J).2 g hg I;have:=((h.fl y J).1.lt g hg).2;omega⟩⟩
structure GD (P:PD) (x k:Nat) (st:jz):Prop where
 fy:P.fy x st.ag=0
 real:st.imp=false→∀f∈st.U,f.inst=x
 inst:∀f∈st.U,f.inst<P.count∧f.k<2
 len:st.U.length≤500
theorem uJ:∀{es:List dn} {cs:List Int} {f:fG},f∈dC x k p es cs->f.inst=x/\f.k=k/\f.ag=p
 |[],_,f,h=>by simp[dC] at h
 |_::_,[],f,h=>by simp[dC] at h
 |e::es,c::cs,f,h=>by
  unfold dC at h
  split at h
  ·rcases a9.1 h with rfl|h
   ·exact⟨rfl,rfl,rfl⟩
   ·exact uJ h
  ·exact uJ h
theorem qG {f:fG} (h:f∈(bM P S x k q).2):f.inst=x/\f.k=k:=by
 unfold bM at h
 split at h
 ·cases h
 ·split at h
  ·cases h
  ·have:=uJ h
   exact⟨this.1,this.2.1⟩
theorem uK (h:∀M,S[x]?=some M->EE M):(bM P S x k q).2.length<=250:=by
 unfold bM
 split
 ·exact aB _
 ·rename_i M D
  split
  ·exact aB _
  ·rename_i r l hs
   refine aF (sK _ _) ?_;exact((h M D).lvl (k:=k) (r:=r) (by rw[hs];simp)).2.1
structure VT (w w':World) (G R:Nat→Prop) (s:Nat) (P:PD) (res:Sm×List jz×Int) (v:Value) (L:List zJ) (G':Nat→Prop) (aw:Int) (x k:Nat):Prop where
 map:L.map (·.st)=res.2.1
 steps:vu w.heap.size w' G' v L
 st:dR w' G' R s P res.1
 lv:Lv G w w'
 sub:∀j,G' j→G j∨qO w w' j
 l0:0≤res.2.2
 qs:∀y∈L,1≤y.st.aw
 sm:(L.map (·.st.aw)).sum+res.2.2=aw
 ok:∀y∈L,GD P x k y.st
structure PJ (w wr:World) (G0 R0:Nat→Prop) (s:Nat) (P:PD) (S:Sm) (x k:Nat) (ag aw:Int) (v:Value) (q1:Int) (Gm:Nat→Prop) (S1:Sm) (f:Nat) (L:List zJ):Prop where
 st:dR wr Gm R0 s P S1
 steps:vu w.heap.size wr Gm v L
 lv:Lv G0 w wr
 sub:∀j,Gm j→G0 j∨qO w wr j
 q0:0≤q1
 qq:q1≤aw
 fu:q1.toNat≤f
 len:(L.length:Int)≤aw - q1
 qs:∀y∈L,1≤y.st.aw
 sm:(L.map (·.st.aw)).sum+q1=aw
 ok:∀y∈L,GD P x k y.st
 eq:dV P aw.toNat S x k ag aw=((dV P f S1 x k ag q1).1,L.map (·.st)++(dV P f S1 x k ag q1).2.1,(dV P f S1 x k ag q1).2.2)
theorem PK (h:q<=0):dV P f S x k ag q=(S,[],q):=by
 cases f with
 |zero=>rfl
 |succ f=>rw[dV,if_pos h]
theorem PL (h:jZ P S x (1 - k)=none):dV P f S x k ag q=(S,[],q):=by
 cases f with
 |zero=>rfl
 |succ f=>
  rw[dV]
  split
  ·rfl
  ·rw[h]
theorem St (h:jZ P S x (1 - k)=some (p,a,im)) (hg:lp k ag p=false):dV P f S x k ag q=(S,[],q):=by
 cases f with
 |zero=>rfl
 |succ f=>
  rw[dV]
  split
  ·rfl
  ·rw[h]
   simp only[hg,dm,if_false]
theorem Uz (hq:0<q) (h:jZ P S x (1 - k)=some (p,a,im)) (hg:lp k ag p=true):
  dV P (f+1) S x k ag q=((dV P f (dA P S x (1 - k) im (min q a)).1 x k ag (q - min q a)).1,⟨p,min q a,im.isSome,(dA P S x (1 - k) im (min q a)).2⟩::(dV P f (dA P S x (1 - k) im (min q a)).1 x k ag (q - min q a)).2.1,(dV P f (dA P S x (1 - k) im (min q a)).1 x k ag (q - min q a)).2.2):=by
 rw[dV,if_neg ae,h];simp only[hg,if_true]
theorem PJ.done {wr:World} {v:Value} (h:PJ w wr G0 R0 s P S x k ag aw v q1 Gm S1 f L)
  (he:dV P f S1 x k ag q1=(S1,[],q1)) (J:∀j,G0 j->G j) (hR:∀j,R0 j->R j):VT w wr G R s P (dV P aw.toNat S x k ag aw) v L Gm aw x k/\(dV P aw.toNat S x k ag aw).2.2=q1:=by
 have e:=h.eq;rw[he] at e;simp only[fe] at e;rw[e];exact⟨⟨rfl,h.steps,h.st.mono (fun j D _=>D) hR,h.lv.mono fun j D=> .inl (J j D),fun j D=>by rcases h.sub j D with I|I;exact .inl (J j I);exact .inr I,h.q0,h.qs,h.sm,h.ok⟩,rfl⟩
theorem PJ.below {wr wr':World} {v:Value} (h:PJ w wr G0 R0 s P S x k ag aw v q1 Gm S1 f L) (D:Bz wr wr'):PJ w wr' G0 R0 s P S x k ag aw v q1 Gm S1 f L:=
 ⟨h.st.below D,h.steps.same (fun g hg _=>D.block g hg) fun g hg=> .inl hg,h.lv.cV D,fun j J=>by rcases h.sub j J with I|⟨I,O⟩;exact .inl I;exact .inr ⟨I,aA O D.size⟩,h.q0,h.qq,h.fu,h.len,h.qs,h.sm,h.ok,h.eq⟩
theorem dR.xX (h:dR w G R s P S) (J:S[x]?=some M):EE M:=by
 obtain⟨C,O,_⟩:=h;have I:x<P.count:=by rw[<-O.sn];exact(az.1 J).1
 obtain⟨b,M',_,D,h5⟩:=O.book I;rw[J] at D;injection D with D;subst D;exact h5.ok
theorem dR.pr (h:dR w G R s P S):∀(x k:Nat) (M:BM) (r:iQ),S[x]?=some M->r∈M.side k->P.fy x r.1=0:=by
 obtain⟨C,D,_⟩:=h;exact D.pr
theorem CJ (s:Nat) (P:PD) (S:Sm) (G R:Nat->Prop) (x k:Nat) (sd p q0 q:Int) (w:World) (h:dR w G R s P S) (ht:lU S x k=some (p,q0)) (hk:k<2) (D:sd=(k:Int)+1) (hq:1<=q) (ax:q<=q0):
  Wz 105 #[Pz s, .agg #[Iz (x:Int),Iz sd],Iz q] w fun e w'=> ∃A c I,e= .returned (.slice A (bM P S x k q).2.length c)/\CD w w' G R s P (bM P S x k q).1 (bM P S x k q).2 A c I/\(bM P S x k q).2≠[]/\(bM P S x k q).2.length<=250:=by
 obtain⟨M,r,l,J,hs,h1,h2⟩:=oE ht;refine(PE s P S G R x k M r l sd q w h J hs hk D ae ae).mono ?_;rintro e w'⟨A,c,I,h3,h4⟩;have O:=uH h.right (h.xX J) J hs hq ae;exact⟨A,c,I,h3,h4,O.1,O.2⟩
theorem pW (h:jZ P S x k=some (p,q,im)):
  (im=none/\lU S x k=some (p,q))\/∃Q,im=some Q/\Q∈mG P.n (lU S) x k/\P.fy x Q.ag=0/\p=Q.ag/\q=Q.aw:=by
 rw[CG] at h;unfold Jw at h
 cases ht:lU S x k with
 |none=>
  cases D:nF k (iq P (lU S) x k) with
  |none=>rw[ht,D] at h;cases h
  |some Q=>
   rw[ht,D] at h;simp only[gf,Prod.mk.injEq] at h;obtain⟨I,J,O⟩:=h;obtain⟨h4,h5⟩:=qF (vt D);exact .inr ⟨Q,O.symm,h4,h5,I.symm,J.symm⟩
 |some r=>
  cases D:nF k (iq P (lU S) x k) with
  |none=>
   rw[ht,D] at h;simp only[gf,Prod.mk.injEq] at h;obtain⟨I,J,O⟩:=h;exact .inl ⟨O.symm,by rw[<-I,<-J]⟩
  |some Q=>
   rw[ht,D] at h;simp only at h
   split at h
   ·simp only[gf,Prod.mk.injEq] at h
    obtain⟨I,J,O⟩:=h;obtain⟨h4,h5⟩:=qF (vt D);exact .inr ⟨Q,O.symm,h4,h5,I.symm,J.symm⟩
   ·simp only[gf,Prod.mk.injEq] at h
    obtain⟨I,J,O⟩:=h;exact .inl ⟨O.symm,by rw[<-I,<-J]⟩
theorem dR.WG (h:dR w G R s P S) (O:lU S x k=some (p,q)):1<=q/\q<=250000000:=by
 obtain⟨M,r,l,hM,hs,h1,h2⟩:=oE O;have hr:r∈M.side k:=by rw[hs];simp
 have D:=h.xX hM;obtain⟨h6,h7,J⟩:=D.lvl hr;have h9:=Gh fun e he=>⟨(J e he).1,(J e he).2.1⟩;have I:r.2≠[]:=by
  unfold BM.side at hr
  split at hr
  ·exact D.XL r hr
  ·exact D.Ol r hr
 have:1<=r.2.length:=by cases hc:r.2 with|nil=>exact absurd hc I|cons a b=>simp
 omega
theorem UA {t:Int} (hP:P.gZ) (hl:S.length=P.count) (J:∀(x:Nat) (M:BM),S[x]?=some M->EE M) (O:∀(x k:Nat) (M:BM) (r:iQ),S[x]?=some M->r∈M.side k->P.fy x r.1=0)
  (hx:x<P.count) (hk:k<2) (h:jZ P S x (1 - k)=some (p,a,im)):GD P x k ⟨p,t,im.isSome,(dA P S x (1 - k) im t).2⟩:=by
 rcases pW h with⟨rfl,ht⟩|⟨Q,rfl,hQ,hw,rfl,rfl⟩
 ·obtain⟨M,r,l,D,hs,h1,I⟩:=oE ht
  refine⟨?_,fun _ f hf=>(qG (show f∈(bM P S x (1 - k) t).2 from hf)).1,fun f hf=>?_,?_⟩
  ·show P.fy x p=0
   rw[<-h1];exact O x (1 - k) M r D (by rw[hs];simp)
  ·have:=qG (show f∈(bM P S x (1 - k) t).2 from hf)
   exact⟨ae,ae⟩
  ·show(bM P S x (1 - k) t).2.length<=500
   exact aF (uK fun M D=>J x M D) ae
 ·have hq:=hP.quote hx (by omega:1 - k<2) hQ
  obtain⟨p0,q0,p1,q1,h0,h1,_⟩:=hq.t;obtain⟨M0,_,_,ax,_⟩:=oE h0;obtain⟨M1,_,_,ay,_⟩:=oE h1;have l0:=(az.1 ax).1;have l1:=(az.1 ay).1;refine⟨hw,fun h=>(by cases h),fun f hf=>?_,?_⟩
  ·have a0:f∈(bM P S Q.i0 Q.k0 t).2++(bM P (bM P S Q.i0 Q.k0 t).1 Q.i1 Q.k1 t).2:=hf
   rcases aJ.1 a0 with I|I
   ·have:=qG I
    exact⟨ae,this.2▸hq.k0⟩
   ·have:=qG I
    exact⟨ae,this.2▸hq.k1⟩
  ·show((bM P S Q.i0 Q.k0 t).2++(bM P (bM P S Q.i0 Q.k0 t).1 Q.i1 Q.k1 t).2).length<=500
   rw[aC];have e1:(bM P S Q.i0 Q.k0 t).2.length<=250:=uK fun M D=>J _ M D;have e2:(bM P (bM P S Q.i0 Q.k0 t).1 Q.i1 Q.k1 t).2.length<=250:=uK fun M D=>by
    rw[yN (Ne.symm hq.ne)] at D;exact J _ M D
   omega
structure nY (wq wx:World) (Gm R0:Nat→Prop) (s:Nat) (P:PD) (S':Sm) (fl:List fG) (g16:Nat) (p t:Int) (imp:Bool) (A:Option Addr) (c:Nat) (Gn:Nat→Prop):Prop where
 st:dR wx Gn R0 s P S'
 own:wx.ownsRow wq.heap.size 240 6 (.slice A fl.length c) fl.length (gW fl)
 D:aE wx g16 186 #[Iz p,Iz t, .bool imp, .slice A fl.length c]
 lv:Lv (fun j=>Gm j∨j=g16) wq wx
 sub:∀j,Gn j→Gm j∨qO wq wx j
 off:∀g,(Value.slice A fl.length c).ownBlock=some g→¬Gn g
theorem mr (l:List fG):(gW l).length=l.length*6:=dX fG.bG l
theorem LR (l m:List fG):gW (l++m)=gW l++gW m:=by simp[gW]
theorem Fp (l:List fG):∀u∈gW l,u.oneCell'=true:=tJ (fun f u hu=>by
 simp only[fG.cells,a9,xd,or_false] at hu;rcases hu with rfl|rfl|rfl|rfl|rfl|rfl<;>rfl) l
theorem nY.more {wq w4 w5 w6:World} {S' a8:Sm} {fl J:List fG} {I:Nat} {t:Int} {imp:Bool} {A A' A2:Option Addr} {c c' c2:Nat} {Gn G':Nat->Prop} {w3:World}
  (h:nY wq w3 Gm R0 s P S' fl I p t imp A c Gn) (b4:Bz w3 w4) (hT:CD w4 w5 Gn R0 s P a8 J A' c' G') (a0:lJ w5 wq.heap.size 240 6 (.slice A fl.length c) (fl.length+J.length) (gW fl++gW J) A2 c2 w6)
  (hg:I<wq.heap.size) (bt:∀j,Gm j->j<wq.heap.size) (ba:¬Gm I) (hR:∀j,R0 j->j<wq.heap.size/\j≠I):
  nY wq (w6.setCell ⟨I,3,none⟩ (.slice A2 (fl++J).length c2)) Gm R0 s P a8 (fl++J) I p t imp A2 c2 G':=by
 have hl:(fl++J).length=fl.length+J.length:=aC ..;have bQ:=h.lv.size;have bR:=b4.size;have bU:=hT.lv.size;have bE:w5.heap.size<=w6.heap.size:=a0.grown.size;have ay:∀g,(Value.slice A fl.length c).ownBlock=some g->wq.heap.size<=g/\g<w3.heap.size:=fun g hg=>h.own.lt g hg;have a6:∀j,G' j->j<w5.heap.size:=fun j hj=>by
  rcases hT.sub j hj with O|⟨O,h2⟩
  ·rcases h.sub j O with h3|⟨h3,h4⟩
   ·have:=bt j h3;omega
   ·omega
  ·exact h2
 have bb:∀j,G' j->(Value.slice A fl.length c).ownBlock≠some j:=fun j hj he=>by
  rcases hT.sub j hj with O|⟨O,h2⟩
  ·exact h.off j he O
  ·have:=ay j he;omega
 have bc:∀j,G' j->j≠I:=fun j hj he=>by
  subst he;rcases hT.sub j hj with O|⟨O,h2⟩
  ·rcases h.sub j O with h3|⟨h3,h4⟩
   ·exact ba h3
   ·omega
  ·omega
 have a7:¬Gn I:=fun O=>by
  rcases h.sub _ O with h3|⟨h3,h4⟩
  ·exact ba h3
  ·omega
 have a2:aE w5 I 186 #[Iz p,Iz t, .bool imp, .slice A fl.length c]:=(h.D.below b4).lv hT.lv a7;have bf:=a2.block (a0.grown.block I a2.lt fun e=>cA (ay I e.symm));have bh:w6.ownsRow wq.heap.size 240 6 (.slice A2 (fl++J).length c2) (fl++J).length (gW (fl++J)):=by rw[hl,LR];exact a0.own
 have a5:∀g,(Value.slice A2 (fl++J).length c2).ownBlock=some g->g≠I/\¬G' g:=fun g ax=>by
  rw[hl] at ax;rcases a0.jV with O|O
  ·rw[O] at ax
   exact⟨fun e=>cA (ay g ax),fun h2=>bb g h2 ax⟩
  ·have h3:(Value.slice A2 (fl.length+J.length) c2).ownBlock=some g:=ax
   rw[O] at h3;injection h3 with h3;exact⟨fun e=>ae,fun h2=>cA (a6 g h2)⟩
 refine⟨?_,aX bh fun g ax=>av _ _ _ _ (a5 g ax).1,bf.set 3 _,?_,fun j hj=>?_,fun g ax=>(a5 g ax).2⟩
 ·refine hT.st.same (fun j hj bp=>?_) (by simp;exact bE)
  have bH:j≠I:=by
   rcases bp with O|O
   ·exact bc j O
   ·exact(hR j O).2
  rw[av _ _ _ _ bH];refine a0.grown.block j hj fun e=>?_;rcases bp with O|O
  ·exact bb j O e.symm
  ·have:=ay j e.symm;have:=(hR j O).1;omega
 ·have l1:Lv (fun j=>Gm j\/j=I) wq w4:=h.lv.cV b4
  have l2:=l1.trans hT.lv fun j hj=>by
   rcases h.sub j hj with h3|⟨h3,h4⟩
   ·exact .inl (.inl h3)
   ·exact .inr h3
  have l3:=l2.trans (Lv.dy (F:=fun j=>(Value.slice A fl.length c).ownBlock=some j) a0.grown fun j hj=> .inl hj) fun j hj=> .inr (ay j hj).1;exact l3.setCell (p:=⟨I,3,none⟩) (.inr rfl) _
 ·have hz:(w6.setCell ⟨I,3,none⟩ (.slice A2 (fl++J).length c2)).heap.size=w6.heap.size:=bT
  rcases hT.sub j hj with O|⟨O,h2⟩
  ·rcases h.sub j O with h3|⟨h3,h4⟩
   ·exact .inl h3
   ·exact .inr ⟨h3,ae⟩
  ·exact .inr ⟨ae,ae⟩
theorem LV (h:jZ P S x k=some (p,a,im)):∃l0 l1 l2 J:Int,CH (some (p,a,im))=#[.agg #[Iz p,Iz a,Iz l0,Iz l1,Iz l2,Iz J], .bool im.isSome, .bool true]/\∀Q,im=some Q->l0=(Q.i0:Int)/\l1=(Q.k0:Int)+1/\l2=(Q.i1:Int)/\J=(Q.k1:Int)+1:=by
 cases im with
 |none=>exact⟨0,0,0,0,rfl,fun Q D=>by cases D⟩
 |some Q=>
  rcases pW h with⟨I,_⟩|⟨O,I,_,_,h2,h3⟩
  ·cases I
  ·injection I with I
   subst I;exact⟨_,_,_,_,by rw[h2,h3];rfl,fun O D=>by injection D with D;subst D;exact⟨rfl,rfl,rfl,rfl⟩⟩
theorem Tryz.YO (a b c d:Int) (w:World):(Instr.index 176 (.agg #[Iz a,Iz b,Iz c,Iz d]) (Iz 0)).run Tryz.prog w= .ok (.agg #[Iz a,Iz b]) w:=by kernel_rfl
theorem Tryz.YP (a b c d:Int) (w:World):(Instr.index 176 (.agg #[Iz a,Iz b,Iz c,Iz d]) (Iz 1)).run Tryz.prog w= .ok (.agg #[Iz c,Iz d]) w:=by kernel_rfl
def PM (Q:Qt) (i:Nat):Nat:=if i=0 then Q.i0 else Q.i1
def PN (Q:Qt) (i:Nat):Nat:=if i=0 then Q.k0 else Q.k1
def qR (P:PD) (S:Sm) (Q:Qt) (t:Int) (i:Nat):Sm×List fG:=if i=0 then (S,[]) else if i=1 then bM P S Q.i0 Q.k0 t else dA P S Q.i0 Q.k0 (some Q) t
theorem Ft (P:PD) (S:Sm) (Q:Qt) (t:Int) {i:Nat} (hi:i<2):qR P S Q t (i+1)=((bM P (qR P S Q t i).1 (PM Q i) (PN Q i) t).1,(qR P S Q t i).2++(bM P (qR P S Q t i).1 (PM Q i) (PN Q i) t).2):=by
 obtain rfl|rfl:i=0\/i=1:=ae
 ·simp[qR,PM,PN]
 ·simp[qR,PM,PN,dA]
theorem PO {y m:Nat} (h:y≠x):lU (bM P S x k q).1 y m=lU S y m:=by
 unfold lU;rw[yN h]
def WH (w w':World) (G R:Nat→Prop) (s:Nat) (P:PD) (res:Sm×List jz×Int) (aw:Int) (x k:Nat) (e:Ending):Prop:=
 ∃A c L G',e= .returned (.tuple #[.slice A L.length c,Iz res.2.2])∧VT w w' G R s P res (.slice A L.length c) L G' aw x k
theorem GF (s:Nat) (P:PD) (S:Sm) (G R:Nat->Prop) (x k:Nat) (sd ag aw:Int) (w:World) (h:dR w G R s P S) (hx:x<P.count) (hk:k<2) (f8:sd=(k:Int)+1) (hq:1<=aw/\aw<=1000000):
  Wz 64 #[Pz s,Iz (x:Int),Iz sd,Iz ag,Iz aw] w fun e w'=>WH w w' G R s P (dV P aw.toNat S x k ag aw) aw x k e:=by
 have el:1<=sd/\sd<=2:=by omega
 obtain⟨hB,f9⟩:=hq;have hR:=h.right;obtain⟨G0,eo⟩:=Zn (fun k=>G k/\k<w.heap.size:Nat->Prop);obtain⟨R0,eF⟩:=Zn (fun k=>R k/\k<w.heap.size:Nat->Prop);have h0:dR w G0 R0 s P S:=by
  obtain⟨C,hS,hC,hD,hE⟩:=h;exact⟨C,hS,fun k hk=>by rw[eo];exact⟨hC k hk,hS.Pt k hk⟩,fun y k hk=>by rw[eo];exact⟨hD y k hk,hS.NG y k hk⟩,fun k hk=>by rw[eF];exact⟨hE k hk,hS.Ps k hk⟩⟩
 have gG:∀j,G0 j->G j:=fun j hj=>by rw[eo] at hj;exact hj.1
 have gR:∀j,R0 j->R j:=fun j hj=>by rw[eF] at hj;exact hj.1
 have gl:∀j,G0 j->j<w.heap.size:=fun j hj=>by rw[eo] at hj;exact hj.2
 have rl:∀j,R0 j->j<w.heap.size:=fun j hj=>by rw[eF] at hj;exact hj.2
 obtain⟨H,H0,HR,GG,GR,GL,RL,HX,eQ⟩:=QG h h0 hR gG gR gl rl hx f8;clear h h0 hR gG gR gl rl eo eF f8
 go_enter Tryz.func64,Tryz.ntmps64
 go_wp2_with fail;refine(Fl s P S G R x sd aw w H.h hx el ⟨hB,f9⟩).mono ?_;rintro e u⟨rfl,rfl⟩;go_wp2_with fail
 go_loopw [4,12] (fun qv v wr=> ∃q1:Int,qv= Iz q1/\q1<=1000000/\0<=q1/\Hid (∃A c Gm S1 f L,v= .slice A L.length c/\PJ w wr G0 R0 s P S x k ag aw v q1 Gm S1 f L)) (fun qv _ _=>(intOf qv).toNat)
 case atStart=>exact⟨aw,rfl,f9,by omega,ao ⟨none,0,G0,S,aw.toNat,[],rfl,H0.h,⟨aM _ _ _ _,fun g hg=>by simp[Value.ownBlock] at hg,fun y hy=>by cases hy⟩,Lv.refl _ _,fun j hj=> .inl hj,by omega,cM _,af _,by simp,(fun y hy=>by cases hy),by simp,(fun y hy=>by cases hy),by simp⟩⟩
 case round=>
  obtain⟨q1,rfl,i9,j0,HI⟩:=hrel;obtain⟨A,c,Gm,S1,f,L,rfl,hI⟩:=HI.h;have a0:=ao hI;clear HI hI
  by_cases gi:0<q1
  ·go_wp2_with fail
   refine(wV sd wr el).mono ?_;rintro e u⟨rfl,rfl⟩;go_wp2_with fail;refine(PI s P S1 Gm R0 x (1 - k) (3 - sd) wr a0.h.st HX.h (by omega) (by have:=eQ.h;omega)).mono ?_;rintro e w1⟨rfl,b1⟩
   cases ep:jZ P S1 x (1 - k) with
   |none=>
    obtain⟨cl,hG⟩:=dF ep b1;clear ep b1;simp only[CH];go_wp2_with fail
    go_ret2
    have hd:=(a0.h.below (au hG.h (.cells #[Iz 0,Iz 0,Iz 0,Iz 0,Iz 0,Iz 0] 178))).done (PL cl.h) GG.h GR.h;refine⟨A,c,L,Gm,by rw[hd.2];rfl,hd.1⟩
   |some r=>
    obtain⟨p,a,im⟩:=r;obtain⟨l0,l1,l2,l3,hv,eN⟩:=LV ep;rw[hv];obtain⟨ib,eR⟩:=Zn im.isSome;rw[<-eR];obtain⟨w2,eG⟩:=Zn (w1.alloc (.cells #[Iz p,Iz a,Iz l0,Iz l1,Iz l2,Iz l3] 178));obtain⟨cm,eb⟩:=Zn w1.heap.size;have gj:=Zq eG eb;have B2:Bz wr w2:=by rw[eG];exact au b1 _
    have hH:Hid (wr.heap.size<=w1.heap.size):=ao b1.size;obtain⟨cl,gq,eI,ed,bQ⟩:=rU ep eN eR gj B2;clear ep eN hv eR gj B2 b1;go_wp2_with fail;rw[<-eG,<-eb];have eS:=ao eb;clear eG eb;refine(Fk sd ag p k w2 hk eQ.h).mono ?_;rintro e u⟨rfl,rfl⟩;obtain⟨z,ez⟩:=Zn (lp k ag p);rw[<-ez];have EZ:=ao ez;clear ez
    cases z
    ·go_wp2_with fail
     go_ret2
     have hd:=(a0.h.below bQ.h).done (St cl.h EZ.h.symm) GG.h GR.h;refine⟨A,c,L,Gm,by rw[hd.2];rfl,hd.1⟩
    ·have hJ:1<=a/\a<=250000000:=by
      rcases pW cl.h with⟨_,h1⟩|⟨Q,_,h1,_,_,h2⟩
      ·exact a0.h.st.WG h1
      ·obtain⟨p0,b0,p1,b1,h3,h4,h5,_⟩:=(HR.h.quote HX.h (by omega) h1).t
       have h6:=a0.h.st.WG h3;have h7:=a0.h.st.WG h4;omega
     obtain⟨a1,a2⟩:=hJ;obtain⟨t,et⟩:∃t,min q1 a=t:=⟨_,rfl⟩;have t1:1<=t:=by omega
     have t2:t<=q1:=by omega
     have t3:t<=a:=by omega
     have c0:Cz w2 cm 0 (Iz p):=ed.h.cell 0;have c1:Cz w2 cm 1 (Iz a):=ed.h.cell 1;obtain⟨wq,eJ⟩:=Zn (w2.alloc (.cells #[Iz p,Iz t, .bool ib, .slice none 0 0] 186));obtain⟨I,ef⟩:=Zn w2.heap.size;have gv:=Zq eJ ef;have BQ:=Zw eJ;obtain⟨T,eT⟩:=Zn (dA P S1 x (1 - k) im t);obtain⟨eK,bR,eL⟩:=fY eT gv BQ;clear eT gv BQ
     go_upto_if 55 with(fail)
     rw[<-eJ,<-ef];obtain⟨gx,a8⟩:=dF et ef;clear eJ ef et c0 c1
     go_cut [16] (fun v wx=>v= Pz I/\Hid (∃A c Gn,nY wq wx Gm R0 s P T.1 T.2 I p t ib A c Gn))
     case first=>
      cases im with
      |none=>
       obtain rfl:ib=false:=eI.h;have cn:∀j,Gm j->j<wr.heap.size:=fun j hj=>by
        rcases a0.h.sub j hj with h1|h1
        ·have:=GL.h j h1;have:=a0.h.lv.size;omega
        ·exact h1.2
       have ht:lU S1 x (1 - k)=some (p,a):=by
        rcases pW cl.h with⟨_,h1⟩|⟨Q,h1,_⟩
        ·exact h1
        ·cases h1
       have eU:w2.heap.size<=I:=by rw[a8.h];exact af _
       have eg:wr.heap.size<=w2.heap.size:=bQ.h.size;have gy:¬Gm I:=fun h1=>by have:=cn _ h1;omega
       have bc:Bz wr wq:=dW bQ.h eL.h;obtain⟨Fs,ba⟩:=Zn (fun j=>j=I:Nat->Prop);have ay:Fs I:=by rw[ba]
       have d1:∀u,aI Fs wq.drew u->Cz u I 1 (Iz t):=fun u hu=>(hu.cell ay).trans (bR.h.cell 1);obtain⟨hL,hN,ct,cv,bU⟩:=rU cn ht gy bc ba;clear cn ht eU eg gy bc ba ay;go_wp2_with fail;refine bx (R:=aI Fs) 9 [3,7,9] [0,1,2,5,6,3,4,7,8,9] (by kernel_rfl) (aI.tr _) (aI.J _) (by kernel_rfl) (fun _ _ _ _ _ h=>h) ?_;refine Yt ?_;clear d1;refine Ym fun K hK=>?_;refine(wV sd _ el).mono ?_;rintro e u⟨rfl,rfl⟩;refine Yo hK (aI.J _ _) ?_;refine Yt ?_;refine Ym fun K hK=>?_;refine(CJ s P S1 Gm R0 x (1 - k) (3 - sd) p a t _ (a0.h.st.below (aS cv.h)) hN.h (by omega) (by have:=eQ.h;omega) t1 t3).mono ?_;rintro e w5⟨A',c',G',rfl,hT, -, -⟩;have cF:=bR.h.drew.lv hT.lv ct.h;have z3:Cz w5 I 3 (.slice none 0 0):=cF.cell 3;have y3:Fz w5 I 3:=cF.frozen 3;have hh:aI Fs wq.drew w5:=fun j hj=>by
        rw[bU.h] at hj;subst hj;exact hT.lv.block _ bR.h.lt ct.h
       have gA:∀g,(Value.slice A' (bM P S1 x (1 - k) t).2.length c').ownBlock=some g->wq.heap.size<=g:=fun g hg=>(hT.own.lt g hg).1;have fin:nY wq (w5.setCell ⟨I,3,none⟩ (.slice A' (bM P S1 x (1 - k) t).2.length c')) Gm R0 s P (bM P S1 x (1 - k) t).1 (bM P S1 x (1 - k) t).2 I p t false A' c' G':=by
        have j1:=bR.h.lt;have gI:∀j,G' j->j≠I:=fun j hj e=>by
         subst e;rcases hT.sub j hj with h1|⟨h1,h2⟩
         ·exact ct.h h1
         ·have h3:wq.heap.size<=j:=h1;omega
        have gO:∀j,R0 j->j≠I:=fun j hj e=>by
         have h1:=RL.h j hj;have h2:=a0.h.lv.size;have h3:=bQ.h.size;have h4:=a8.h;omega
        have hO:(Value.slice A' (bM P S1 x (1 - k) t).2.length c').ownBlock≠some I:=fun hg=>by
         obtain⟨cur,hc⟩:=bY hT.own hg;exact jY cF hc (by decide) rfl
        refine⟨hT.st.same (fun j hj eV=>av _ _ _ _ (by rcases eV with h1|h1;exact gI j h1;exact gO j h1)) (by simp),aX hT.own fun g hg=>av _ _ _ _ (by intro e;have e':g=I:=e;rw[e'] at hg;exact hO hg),cF.set 3 _,?_,fun j hj=>?_,hT.off⟩
        ·exact((Lv.refl _ wq).drew.trans hT.lv fun j hj=> .inl (.inl hj)).setCell (p:=⟨I,3,none⟩) (.inr rfl) _
        ·rcases hT.sub j hj with h1|⟨h1,h2⟩
         ·exact .inl h1
         ·exact .inr ⟨h1,by simp;exact h2⟩
       obtain⟨hP,HH⟩:=dF fin hh;clear hT cF fin hh gA;refine Yo hK (HH.h) ?_;refine Yt ?_;refine Zl fun K hK=>?_;go_simp;refine Yl hK ?_;refine aT ?_;go_wp2_with fail;go_meet;exact⟨rfl,ao ⟨A',c',G',by rw[eK.h];exact hP.h⟩⟩
      |some Q=>
       obtain rfl:ib=true:=eI.h;obtain⟨e0,e1,e2,e3⟩:=gq.h Q rfl;have cn:∀j,Gm j->j<wr.heap.size:=fun j hj=>by
        rcases a0.h.sub j hj with h1|h1
        ·have:=GL.h j h1;have:=a0.h.lv.size;omega
        ·exact h1.2
       have gP:XS P.n (lU S1) x (1 - k) Q/\a=Q.aw:=by
        rcases pW cl.h with⟨h1,_⟩|⟨Q',h1,h2,_,_,h3⟩
        ·cases h1
        ·injection h1 with h1
         subst h1;exact⟨HR.h.quote HX.h (by omega) h2,h3⟩
       have eg:wr.heap.size<=w2.heap.size:=bQ.h.size;have gT:wr.heap.size<=cm:=by rw[eS.h];have:=bQ.h.size;exact hH.h
       have eO:wr.heap.size<=I:=by rw[a8.h];exact eg
       have eW:cm≠I:=by have:=ed.h.lt;have:=a8.h;omega
       have cH:=ed.h.below eL.h;have c2:Cz wq cm 2 (Iz l0):=cH.cell 2;have c3:Cz wq cm 3 (Iz l1):=cH.cell 3;have c4:Cz wq cm 4 (Iz l2):=cH.cell 4;have c5:Cz wq cm 5 (Iz l3):=cH.cell 5;have bc:Bz wr wq:=dW bQ.h eL.h;have hQ:wr.heap.size<=wq.heap.size:=bc.size;have er:w.heap.size<=wr.heap.size:=a0.h.lv.size;have ei:Hid (∀j,Gm j->j<wq.heap.size):=ao fun j hj=>by have:=cn j hj;omega
       have ct:Hid (¬Gm I):=ao fun h1=>by have:=cn I h1;omega
       have g4:Hid (∀j,R0 j->j<wq.heap.size/\j≠I):=ao fun j hj=>by have:=RL.h j hj;exact⟨by omega,by omega⟩
       have ej:Hid (I<wq.heap.size):=ao bR.h.lt;clear hQ er;obtain⟨hL,bV,i6,cv,hU,hV,hW,hX⟩:=Dw cn gP eO bc e0 e1 e2 e3;clear cn gP eg gT eO eW cH bc e0 e1 e2 e3;go_wp2_with fail;clear c2 c3 c4 c5
       go_loopw [58] (fun v wx=> ∃i:Nat,i<=2/\v= Iz (i:Int)/\Hid (∃A c Gn,nY wq wx Gm R0 s P (qR P S1 Q t i).1 (qR P S1 Q t i).2 I p t true A c Gn)) (fun v _=>2 - (intOf v).toNat)
       case atStart=>exact⟨0,by omega,rfl,ao ⟨none,0,Gm,a0.h.st.below cv.h,aM _ _ _ _,bR.h,Lv.refl _ _,fun j hj=> .inl hj,fun g hg=>by simp[Value.ownBlock] at hg⟩⟩
       case round=>
        obtain⟨i,hi,rfl,HL⟩:=hrel;obtain⟨Af,cf,Gn,hF⟩:=HL.h;obtain rfl|rfl|rfl:i=0\/i=1\/i=2:=by omega
        ·have dc:(qR P S1 Q t 0).2.length<=1000:=by
          simp[qR]
         obtain⟨p0,b0,p1,b1,h3,h4,h5,_⟩:=bV.h.1.t;have eY:=bV.h.2;have dp:lU (qR P S1 Q t 0).1 Q.i0 Q.k0=some (p0,b0):=by
          exact h3
         have eu:t<=b0:=by omega
         have ew:Q.k0<2:=bV.h.1.k0;obtain⟨Si,b7⟩:=Zn ((qR P S1 Q t 0).1);obtain⟨fi,b9⟩:=Zn ((qR P S1 Q t 0).2);rw[<-b7,<-b9] at hF;rw[<-b7] at dp;rw[<-b9] at dc;have g1:Cz wr I 1 (Iz t):=hF.D.cell 1;have g3:Cz wr I 3 (.slice Af fi.length cf):=hF.D.cell 3;obtain⟨w3,cd⟩:=Zn (wr.alloc (.cells #[Iz l0,Iz l1] 175));obtain⟨bf,bh⟩:=Zn wr.heap.size;have ck:=Zq cd bh;have B3:=Zw cd;have a7:=hF.D.below B3;obtain⟨Fs,ba⟩:=Zn (fun j=>j=I\/j=bf:Nat->Prop);have ay:Fs I:=by rw[ba];exact .inl rfl
         have dS:Fs bf:=by rw[ba];exact .inr rfl
         have d1:∀u,aI Fs w3.drew u->Cz u I 1 (Iz t):=fun u hu=>(hu.cell ay).trans (a7.cell 1);have d3:∀u,aI Fs w3.drew u->Cz u I 3 (.slice Af fi.length cf):=fun u hu=>(hu.cell ay).trans (a7.cell 3);have d4:∀u,aI Fs w3.drew u->Cz u bf 0 (Iz l0):=fun u hu=>(hu.cell dS).trans (ck.cell 0);have d5:∀u,aI Fs w3.drew u->Cz u bf 1 (Iz l1):=fun u hu=>(hu.cell dS).trans (ck.cell 1);obtain⟨ax,eZ,e4,e5,e6,e7,e9,bp,cQ,a5,bU,bt⟩:=QN hF dp eu ew b7 b9 dc B3 ck a7 ba bh;clear hF dp eu ew b7 b9 dc B3 ck a7 ba ay dS HL hi h3 h4 h5 eY;have fa:=Tryz.YO l0 l1 l2 l3 wr;go_wp2_with fail;clear fa;rw[<-cd,<-bt.h];clear cd bh g1 g3;refine bx (R:=aI Fs) 9 [6,7,9] [0,1,2,3,4,5,6,7,8,9] (by kernel_rfl) (aI.tr _) (aI.J _) (by kernel_rfl) (fun _ _ _ _ _ h=>h) ?_;refine Yt ?_;clear d1 d3 d4 d5;refine Ym fun K hK=>?_;have dT:=CJ s P Si Gn R0 Q.i0 Q.k0 ((Q.k0:Int)+1) p0 b0 t _ ((ax.h.st.below bp.h).drew) eZ.h e5.h rfl t1 e4.h;rw[<-hU.h,<-hV.h] at dT;refine dT.mono ?_;clear dT;rintro e w5⟨A',c',G',rfl,hT,d2,d6⟩;have bE:CD w3 w5 Gn R0 s P (bM P Si Q.i0 Q.k0 t).1 (bM P Si Q.i0 Q.k0 t).2 A' c' G':=⟨hT.own,hT.st,(Lv.refl _ w3).drew.then hT.lv,hT.sub,hT.off⟩;obtain⟨fT,d7⟩:=Zn ((bM P Si Q.i0 Q.k0 t).2);rw[<-d7] at bE d2 d6⊢;have a6:∀j,Gn j->j<wr.heap.size:=fun j hj=>by
          rcases ax.h.sub j hj with h1|⟨h1,h2⟩
          ·have:=ei.h j h1;have:=ax.h.lv.size;omega
          ·exact h2
         have cS:¬Gn I:=fun h1=>by
          rcases ax.h.sub _ h1 with h2|⟨h2,_⟩
          ·exact ct.h h2
          ·have:=ej.h;omega
         have cT:¬Gn bf:=fun h1=>by have:=a6 _ h1;have:=bt.h;omega
         have hh:aI Fs w3.drew w5:=fun j hj=>by
          rw[bU.h] at hj;rcases hj with rfl|rfl
          ·exact hT.lv.block _ a5.h.lt cS
          ·exact hT.lv.block _ cQ.h.lt cT
         have cX:w5.ownsRow wq.heap.size 240 6 (.slice Af fi.length cf) fi.length (gW fi):=aX (bP ax.h.own bp.h) fun g hg=>hT.lv.block g (by have:=(ax.h.own.lt g hg).2;have:=bp.h.size;show g<w3.heap.size;omega) (ax.h.off g hg);have eA:wq.heap.size<=w5.heap.size:=by have h1:=ax.h.lv.size;have h2:=bp.h.size;have h3:w3.heap.size<=w5.heap.size:=bE.lv.size;omega
         have C5:=dP.O bE.own;obtain⟨HT,HH,ff,fk,fq,fx,fz,eB⟩:=Dw bE hh cX eA C5 d2 d6 d7;clear hT bE hh cX eA C5 a6 cS cT d2 d6 d7;refine Yo hK (HH.h) ?_;refine Zm fun K hK=>?_;refine fZ LM ff.h (A:=A') (m:=fT.length) (c:=c') (news:=gW fT) _ _ rfl rfl rfl (mr fT) (by intro h0;have h1:=mr fT;rw[h0] at h1;simp at h1;exact fx.h (aP (by omega))) fq.h (Fp fT) (by have:=fz.h;have:=e9.h;omega) fk.h (fi.length+fT.length) _ rfl rfl ?_;intro A2 c2 w6 d8;have bb:∀g,(Value.slice Af fi.length cf).ownBlock=some g->wq.heap.size<=g/\g<wr.heap.size:=fun g hg=>ax.h.own.lt g hg;have h6:aI Fs w5 w6:=fun j hj=>by
          have d9:=hj;rw[bU.h] at d9;have fH:j<w5.heap.size:=by
           have h3:w3.heap.size<=w5.heap.size:=HT.h.lv.size;rcases d9 with rfl|rfl
           ·have:=a5.h.lt;omega
           ·have:=cQ.h.lt;omega
          refine d8.grown.block j fH fun e=>?_;have hr:=bb j e.symm;rcases d9 with rfl|rfl
          ·have:=ej.h;omega
          ·have:=bt.h;omega
         have bH:=nY.more ax.h bp.h HT.h d8 ej.h ei.h ct.h g4.h;have ay:Fs I:=by rw[bU.h];exact .inl rfl
         have z3:Cz w6 I 3 (.slice Af fi.length cf):=((h6.cell ay).trans (HH.h.cell ay)).trans (a5.h.cell 3);have y3:Fz w6 I 3:=(aY (a:=⟨I,3,none⟩) (h6 I ay)).trans ((aY (a:=⟨I,3,none⟩) (HH.h I ay)).trans (a5.h.frozen 3));rw[aC] at bH;obtain⟨eC,H6⟩:=dF bH h6;clear d8 bb h6 bH ay;refine Yo hK (H6.h) ?_;refine Yt ?_;refine Zl fun K hK=>?_;go_simp;refine Yl hK ?_;refine aT ?_;go_wp2_with fail;go_roundw
         case rel=>
          refine⟨1,by omega,rfl,ao ⟨A2,c2,G',?_⟩⟩;have h7:=Ft P S1 Q t (i:=0) (by omega);have f0:PM Q 0=Q.i0:=rfl;have f1:PN Q 0=Q.k0:=rfl;rw[f0,f1,<-e6.h,<-e7.h,<-eB.h] at h7;show nY wq _ Gm R0 s P (qR P S1 Q t (0+1)).1 (qR P S1 Q t (0+1)).2 I p t true A2 c2 G';rw[h7];simp only[aC];exact eC.h
         case measure=>simp[intOf]
        ·have dc:(qR P S1 Q t 1).2.length<=1000:=by
          have h9:=a0.h.st;obtain⟨p0,b0,p1,b1,h3,h4,h5,_⟩:=bV.h.1.t;obtain⟨M,r,lr,hM,hs,_,h8⟩:=oE h3;have:=(uH h9.right (h9.xX hM) hM hs t1 (by have:=bV.h.2;omega)).2;show(bM P S1 Q.i0 Q.k0 t).2.length<=1000;omega
         obtain⟨p0,b0,p1,b1,h3,h4,h5,_⟩:=bV.h.1.t;have eY:=bV.h.2;have dp:lU (qR P S1 Q t 1).1 Q.i1 Q.k1=some (p1,b1):=by
          show lU (bM P S1 Q.i0 Q.k0 t).1 Q.i1 Q.k1=_;rw[PO (Ne.symm bV.h.1.ne)];exact h4
         have eu:t<=b1:=by omega
         have ew:Q.k1<2:=bV.h.1.k1;obtain⟨Si,b7⟩:=Zn ((qR P S1 Q t 1).1);obtain⟨fi,b9⟩:=Zn ((qR P S1 Q t 1).2);rw[<-b7,<-b9] at hF;rw[<-b7] at dp;rw[<-b9] at dc;have g1:Cz wr I 1 (Iz t):=hF.D.cell 1;have g3:Cz wr I 3 (.slice Af fi.length cf):=hF.D.cell 3;obtain⟨w3,cd⟩:=Zn (wr.alloc (.cells #[Iz l2,Iz l3] 175));obtain⟨bf,bh⟩:=Zn wr.heap.size;have ck:=Zq cd bh;have B3:=Zw cd;have a7:=hF.D.below B3;obtain⟨Fs,ba⟩:=Zn (fun j=>j=I\/j=bf:Nat->Prop);have ay:Fs I:=by rw[ba];exact .inl rfl
         have dS:Fs bf:=by rw[ba];exact .inr rfl
         have d1:∀u,aI Fs w3.drew u->Cz u I 1 (Iz t):=fun u hu=>(hu.cell ay).trans (a7.cell 1);have d3:∀u,aI Fs w3.drew u->Cz u I 3 (.slice Af fi.length cf):=fun u hu=>(hu.cell ay).trans (a7.cell 3);have d4:∀u,aI Fs w3.drew u->Cz u bf 0 (Iz l2):=fun u hu=>(hu.cell dS).trans (ck.cell 0);have d5:∀u,aI Fs w3.drew u->Cz u bf 1 (Iz l3):=fun u hu=>(hu.cell dS).trans (ck.cell 1);obtain⟨ax,eZ,e4,e5,e6,e7,e9,bp,cQ,a5,bU,bt⟩:=QN hF dp eu ew b7 b9 dc B3 ck a7 ba bh;clear hF dp eu ew b7 b9 dc B3 ck a7 ba ay dS HL hi h3 h4 h5 eY;have fa:=Tryz.YP l0 l1 l2 l3 wr;go_wp2_with fail;clear fa;rw[<-cd,<-bt.h];clear cd bh g1 g3;refine bx (R:=aI Fs) 9 [6,7,9] [0,1,2,3,4,5,6,7,8,9] (by kernel_rfl) (aI.tr _) (aI.J _) (by kernel_rfl) (fun _ _ _ _ _ h=>h) ?_;refine Yt ?_;clear d1 d3 d4 d5;refine Ym fun K hK=>?_;have dT:=CJ s P Si Gn R0 Q.i1 Q.k1 ((Q.k1:Int)+1) p1 b1 t _ ((ax.h.st.below bp.h).drew) eZ.h e5.h rfl t1 e4.h;rw[<-hW.h,<-hX.h] at dT;refine dT.mono ?_;clear dT;rintro e w5⟨A',c',G',rfl,hT,d2,d6⟩;have bE:CD w3 w5 Gn R0 s P (bM P Si Q.i1 Q.k1 t).1 (bM P Si Q.i1 Q.k1 t).2 A' c' G':=⟨hT.own,hT.st,(Lv.refl _ w3).drew.then hT.lv,hT.sub,hT.off⟩;obtain⟨fT,d7⟩:=Zn ((bM P Si Q.i1 Q.k1 t).2);rw[<-d7] at bE d2 d6⊢;have a6:∀j,Gn j->j<wr.heap.size:=fun j hj=>by
          rcases ax.h.sub j hj with h1|⟨h1,h2⟩
          ·have:=ei.h j h1;have:=ax.h.lv.size;omega
          ·exact h2
         have cS:¬Gn I:=fun h1=>by
          rcases ax.h.sub _ h1 with h2|⟨h2,_⟩
          ·exact ct.h h2
          ·have:=ej.h;omega
         have cT:¬Gn bf:=fun h1=>by have:=a6 _ h1;have:=bt.h;omega
         have hh:aI Fs w3.drew w5:=fun j hj=>by
          rw[bU.h] at hj;rcases hj with rfl|rfl
          ·exact hT.lv.block _ a5.h.lt cS
          ·exact hT.lv.block _ cQ.h.lt cT
         have cX:w5.ownsRow wq.heap.size 240 6 (.slice Af fi.length cf) fi.length (gW fi):=aX (bP ax.h.own bp.h) fun g hg=>hT.lv.block g (by have:=(ax.h.own.lt g hg).2;have:=bp.h.size;show g<w3.heap.size;omega) (ax.h.off g hg);have eA:wq.heap.size<=w5.heap.size:=by have h1:=ax.h.lv.size;have h2:=bp.h.size;have h3:w3.heap.size<=w5.heap.size:=bE.lv.size;omega
         have C5:=dP.O bE.own;obtain⟨HT,HH,ff,fk,fq,fx,fz,eB⟩:=Dw bE hh cX eA C5 d2 d6 d7;clear hT bE hh cX eA C5 a6 cS cT d2 d6 d7;refine Yo hK (HH.h) ?_;refine Zm fun K hK=>?_;refine fZ LM ff.h (A:=A') (m:=fT.length) (c:=c') (news:=gW fT) _ _ rfl rfl rfl (mr fT) (by intro h0;have h1:=mr fT;rw[h0] at h1;simp at h1;exact fx.h (aP (by omega))) fq.h (Fp fT) (by have:=fz.h;have:=e9.h;omega) fk.h (fi.length+fT.length) _ rfl rfl ?_;intro A2 c2 w6 d8;have bb:∀g,(Value.slice Af fi.length cf).ownBlock=some g->wq.heap.size<=g/\g<wr.heap.size:=fun g hg=>ax.h.own.lt g hg;have h6:aI Fs w5 w6:=fun j hj=>by
          have d9:=hj;rw[bU.h] at d9;have fH:j<w5.heap.size:=by
           have h3:w3.heap.size<=w5.heap.size:=HT.h.lv.size;rcases d9 with rfl|rfl
           ·have:=a5.h.lt;omega
           ·have:=cQ.h.lt;omega
          refine d8.grown.block j fH fun e=>?_;have hr:=bb j e.symm;rcases d9 with rfl|rfl
          ·have:=ej.h;omega
          ·have:=bt.h;omega
         have bH:=nY.more ax.h bp.h HT.h d8 ej.h ei.h ct.h g4.h;have ay:Fs I:=by rw[bU.h];exact .inl rfl
         have z3:Cz w6 I 3 (.slice Af fi.length cf):=((h6.cell ay).trans (HH.h.cell ay)).trans (a5.h.cell 3);have y3:Fz w6 I 3:=(aY (a:=⟨I,3,none⟩) (h6 I ay)).trans ((aY (a:=⟨I,3,none⟩) (HH.h I ay)).trans (a5.h.frozen 3));rw[aC] at bH;obtain⟨eC,H6⟩:=dF bH h6;clear d8 bb h6 bH ay;refine Yo hK (H6.h) ?_;refine Yt ?_;refine Zl fun K hK=>?_;go_simp;refine Yl hK ?_;refine aT ?_;go_wp2_with fail;go_roundw
         case rel=>
          refine⟨2,by omega,rfl,ao ⟨A2,c2,G',?_⟩⟩;have h7:=Ft P S1 Q t (i:=1) (by omega);have f0:PM Q 1=Q.i1:=rfl;have f1:PN Q 1=Q.k1:=rfl;rw[f0,f1,<-e6.h,<-e7.h,<-eB.h] at h7;show nY wq _ Gm R0 s P (qR P S1 Q t (1+1)).1 (qR P S1 Q t (1+1)).2 I p t true A2 c2 G';rw[h7];simp only[aC];exact eC.h
         case measure=>simp[intOf]
        ·have ax:=ao hF
         clear hF HL hi;go_wp2_with fail;go_meet;refine⟨rfl,ao ⟨Af,cf,Gn,?_⟩⟩;rw[eK.h];exact ax.h
     obtain⟨rfl,HF⟩:=hcut;obtain⟨A',c',Gn,hF⟩:=HF.h;obtain⟨fl,f2⟩:=Zn T.2;rw[<-f2] at hF;have b0:Cz wc I 0 (Iz p):=hF.D.cell 0;have b1:Cz wc I 1 (Iz t):=hF.D.cell 1;have b2:Cz wc I 2 (.bool ib):=hF.D.cell 2;have b3:Cz wc I 3 (.slice A' fl.length c'):=hF.D.cell 3;have bc:Bz wr wq:=dW bQ.h eL.h;have g6:wr.heap.size<=w2.heap.size:=bQ.h.size;have eU:wr.heap.size<=I:=by rw[a8.h];exact g6
     have er:w.heap.size<=wr.heap.size:=a0.h.lv.size;have f3:wr.heap.size<=wq.heap.size:=bc.size;have f4:wq.heap.size<=wc.heap.size:=hF.lv.size;have eD:∀g,g<wr.heap.size->¬Gm g->wc.heap[g]?=wr.heap[g]?:=fun g hg hn=>(hF.lv.block g (by omega) (by rintro(h1|h1);exact hn h1;omega)).trans (bc.block g hg);have g7:vu w.heap.size wc Gn (.slice A L.length c) L:=a0.h.steps.same eD fun g hg=>by
      rcases hF.sub g hg with h1|⟨h1,h2⟩
      ·exact .inl h1
      ·exact .inr (by omega)
     have j2:L.length<=1000000:=by have:=a0.h.len;have:=a0.h.q0;omega
     obtain⟨ek,ea,hY,g9,cv⟩:=rU hF g7 f2 (And.intro er (And.intro f3 f4)) bc;clear hF g7 f2 eD bc g6 eU er f3 f4 HF
     go_wp2_with (at_builtin
                  refine dO WE ea.h.row #[Iz p,Iz t, .bool ib, .slice A' fl.length c'] rfl _ _ rfl rfl rfl rfl (by intro u hu;simp at hu;rcases hu with rfl|rfl|rfl|rfl<;>rfl) (by omega) (by have:=g9.h;omega) ?_;intro A8 c8 w8 eP g8 b8 l8)
     obtain⟨ia,eM,ih⟩:=fY eP g8 l8;clear eP g8 b8 l8 b0 b1 b2 b3;go_roundw
     case rel=>
      obtain⟨er,f3,f4⟩:=g9.h;have hI:=a0.h;obtain⟨f',il⟩:∃f',f=f'+1:=⟨f - 1,by have:=hI.fu;omega⟩;obtain⟨y,ey⟩:=Zn (⟨⟨p,t,ib,T.2⟩,A',c'⟩:zJ);have f5:=hY.h;have iF:y.cells=[Iz p,Iz t, .bool ib, .slice A' fl.length c']:=by rw[ey,f5];rfl
      have f6:(L++[y]).length=L.length+1:=by simp
      have hb:wc.heap.size<=w8.heap.size:=eM.h.size;have bb:∀g,(Value.slice A L.length c).ownBlock=some g->w.heap.size<=g/\g<wc.heap.size:=fun g hg=>ea.h.row.lt g hg;have a6:∀j,Gn j->j<wc.heap.size:=fun j hj=>by
       rcases ek.h.sub j hj with h1|⟨h1,h2⟩
       ·rcases hI.sub j h1 with h3|⟨h3,h4⟩
        ·have:=GL.h j h3;omega
        ·omega
       ·exact h2
      have hl:∀(v:Value) (n:Nat) (xs:List Value),wc.ownsRow w.heap.size 240 6 v n xs->w8.ownsRow w.heap.size 240 6 v n xs:=fun v n xs hv=>aX hv fun g hg=>eM.h.block g (hv.lt g hg).2 fun e=>by
       obtain⟨cur,hc⟩:=bY hv hg;obtain⟨i7,i3⟩:=bY ea.h.row e.symm;exact jY hc i3 (by decide) rfl
      have ho:=Uz (P:=P) (f:=f') (S:=S1) (x:=x) (k:=k) (ag:=ag) gi cl.h EZ.h.symm;rw[gx.h,<-eK.h,<-eI.h,<-il] at ho;refine⟨q1 - t,rfl,by omega,by omega,ao ⟨A8,c8,Gn,T.1,f',L++[y],by rw[f6],?_,?_,?_,fun j hj=>?_,by omega,by have:=hI.qq;omega,by have:=hI.fu;omega,?_,?_,?_,?_,?_⟩⟩
      ·refine ek.h.st.same (fun j hj eV=>eM.h.block j hj fun e=>?_) hb
       rcases eV with h1|h1
       ·exact ea.h.off j e.symm h1
       ·have:=RL.h j h1;have:=bb j e.symm;omega
      ·refine⟨by rw[f6,Jy,iF];exact ia.h,fun g hg hz=>?_,fun y' eE=>?_⟩
       ·rcases ih.h with h1|h1
        ·exact ea.h.off g (h1▸hg) hz
        ·rw[h1] at hg
         injection hg with hg;have:=a6 g hz;omega
       ·rcases aJ.1 eE with h1|h1
        ·exact⟨hl _ _ _ (ea.h.fl y' h1).1,(ea.h.fl y' h1).2⟩
        ·have h2:y'=y:=by simpa using h1
         subst h2;have i4:y'.v= .slice A' fl.length c':=by rw[ey,f5];rfl
         have i5:y'.st.U=fl:=by rw[ey,f5]
         rw[i4,i5];exact⟨hl _ _ _ (ch ek.h.own (by omega)),ek.h.off⟩
      ·refine(((hI.lv.cV cv.h).trans ek.h.lv fun j hj=>?_).trans (Lv.dy (F:=fun j=>(Value.slice A L.length c).ownBlock=some j) eM.h fun j hj=> .inl hj) fun j hj=> .inr (bb j hj).1)
       rcases hj with h1|h1
       ·rcases hI.sub j h1 with h2|⟨h2,_⟩
        ·exact .inl h2
        ·exact .inr h2
       ·have h2:=a8.h;have h3:=bQ.h.size;exact .inr (by omega)
      ·rcases ek.h.sub j hj with h1|⟨h1,h2⟩
       ·rcases hI.sub j h1 with h3|⟨h3,h4⟩
        ·exact .inl h3
        ·exact .inr ⟨h3,by omega⟩
       ·exact .inr ⟨by omega,by omega⟩
      ·rw[f6];have:=hI.len;omega
      ·intro y' eE
       rcases aJ.1 eE with h1|h1
       ·exact hI.qs y' h1
       ·have h2:y'=y:=by simpa using h1
        subst h2;rw[show y'.st.aw=t by rw[ey]];exact t1
      ·have f7:y.st.aw=t:=by rw[ey]
       rw[cx,MR,aW,iM,f7];have:=hI.sm;simp only[cN,List.sum_nil];omega
      ·intro y' eE
       rcases aJ.1 eE with h1|h1
       ·exact hI.ok y' h1
       ·have h2:y'=y:=by simpa using h1
        subst h2;rw[show y'.st=⟨p,t,im.isSome,(dA P S1 x (1 - k) im t).2⟩ by rw[ey,eK.h,eI.h]];exact UA HR.h hI.st.len (fun x M hM=>hI.st.xX hM) hI.st.pr HX.h hk cl.h
      ·have he:=hI.eq
       rw[ho] at he;rw[he,cx,bD];have f7:y.st=⟨p,t,ib,T.2⟩:=by rw[ey]
       simp only[aW,iM,f7];rfl
     case measure=>simp[intOf];omega
  ·obtain rfl:q1=0:=by omega
   go_wp2_with fail
   go_ret2
   have hd:=a0.h.done (PK (cM 0)) GG.h GR.h;refine⟨A,c,L,Gm,by rw[hd.2];rfl,hd.1⟩
end Go.Proofs.YtbaaheidifacaaaGreat
