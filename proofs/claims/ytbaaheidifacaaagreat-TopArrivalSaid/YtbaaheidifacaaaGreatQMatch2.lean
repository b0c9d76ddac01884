import Derived.Test.YtbaaheidifacaaaGreatQMktP
import Derived.Test.YtbaaheidifacaaaGreatQImp
set_option linter.defProp false
set_option linter.unusedVariables false
set_option linter.unusedSimpArgs false
set_option maxRecDepth 100000
set_option maxHeartbeats 12800000
namespace Go.Proofs.YtbaaheidifacaaaGreat
variable {C:NF} {G G0 Gm R R0:Nat→Prop} {M:BM} {N f k s x:Nat} {P:PD} {S S1:Sm} {a p ag q q1 aw:Int} {im:Option Qt} {l:List iQ} {r:iQ} {tp tp':kJ} {w:World}
open Go.RowKit
theorem Tryz.Sl:(Tryz.prog.info? 240).map (fun i=>(i.zero,i.size,i.bytes))=some (some (.agg #[Iz 0,Iz 0,Iz 0,Iz 0,Iz 0,Iz 0]),6,48):=by kernel_rfl
theorem LM:kA Tryz.prog 184 240 (.agg #[Iz 0,Iz 0,Iz 0,Iz 0,Iz 0,Iz 0]) 6 48:=
 ⟨Tryz.underlying184,let ⟨i,h,D,I,J⟩:=info_parts Tryz.Sl;⟨i,h,D,I,J⟩,rfl,ae,ae⟩
theorem Jv (D:S[x]?=some M) (hs:M.side k=r::l):bM P S x k q=(S.set x (ja M r.2 (mA P k r q)),dC x k r.1 r.2 (mA P k r q)):=by
 unfold bM;rw[D];simp only[hs]
theorem qj.gX (h:qj w s P S C):
  w.cell? ⟨s,0,none⟩=some (.string (str P.code))/\w.cell? ⟨s,1,none⟩=some (.slice C.ma P.E.length C.mc)/\w.cell? ⟨s,2,none⟩=some (Iz P.tick)/\w.cell? ⟨s,3,none⟩=some (Iz P.low)/\w.cell? ⟨s,4,none⟩=some (Iz P.high)/\w.cell? ⟨s,5,none⟩=some (Iz P.wide)/\
  w.cell? ⟨s,6,none⟩=some (Iz P.rule)/\w.cell? ⟨s,7,none⟩=some (Iz P.top)/\w.cell? ⟨s,8,none⟩=some (Iz P.least)/\w.cell? ⟨s,9,none⟩=some (Iz P.part)/\w.cell? ⟨s,10,none⟩=some (.slice C.sa P.settle.length C.sc)/\w.cell? ⟨s,11,none⟩=some (.slice C.A C.bs.length C.c)/\w.cell? ⟨s,12,none⟩=some (.map (some C.mb)):=
 ⟨h.D.cell 0,h.D.cell 1,h.D.cell 2,h.D.cell 3,h.D.cell 4,h.D.cell 5,h.D.cell 6,h.D.cell 7,h.D.cell 8,h.D.cell 9,h.D.cell 10,h.D.cell 11,h.D.cell 12⟩
structure CD (w w':World) (G R:Nat→Prop) (s:Nat) (P:PD) (S':Sm) (fl:List fG) (A:Option Addr) (c:Nat) (G':Nat→Prop):Prop where
 own:w'.ownsRow w.heap.size 240 6 (.slice A fl.length c) fl.length (gW fl)
 st:dR w' G' R s P S'
 lv:Lv G w w'
 sub:∀j,G' j→G j∨qO w w' j
 off:∀g,(Value.slice A fl.length c).ownBlock=some g→¬G' g
def Y2 (w w5 wr:World) (G0 Gm R:Nat→Prop) (s:Nat) (P:PD) (S:Sm) (x k:Nat) (M:BM) (es:List dn) (ks:List Int) (p:Int) (m:Nat) (v:Value):Prop:=
 wr.ownsRow w5.heap.size 240 6 v (dC x k p (es.take m) (ks.take m)).length (gW (dC x k p (es.take m) (ks.take m)))∧dR wr Gm R s P (S.set x (ja M (es.take m) (ks.take m)))∧Lv G0 w5 wr∧(∀j,Gm j→G0 j∨(w5.heap.size≤j∧j<wr.heap.size))∧∀g,v.ownBlock=some g→¬Gm g
theorem PE (s:Nat) (P:PD) (S:Sm) (G R:Nat->Prop) (x k:Nat) (M:BM) (r:iQ) (lr:List iQ) (sd q:Int) (w:World) (h:dR w G R s P S) (hM:S[x]?=some M) (hs:M.side k=r::lr) (hk:k<2) (eY:sd=(k:Int)+1) (hq:0<=q) (gx:q<=mq r.2):
  Wz 105 #[Pz s, .agg #[Iz (x:Int),Iz sd],Iz q] w fun e w'=> ∃A c G',e= .returned (.slice A (bM P S x k q).2.length c)/\CD w w' G R s P (bM P S x k q).1 (bM P S x k q).2 A c G':=by
 obtain⟨C,hS,gy,gG,hR⟩:=h;have cl:r∈M.side k:=by rw[hs];simp
 have hlen:=(az.1 hM).1;have kx:x<P.count:=by rw[<-hS.sn];exact hlen
 obtain⟨b,M',hb,cm,hB⟩:=hS.book kx;rw[hM] at cm;injection cm with cm;subst cm;obtain⟨gA,hA,hp⟩:=mB hS.ob hb;have xX:=hB.ok;obtain⟨eZ,e5,e6⟩:=xX.lvl cl;obtain⟨eo,er⟩:=yL hS.pd.right xX cl hq gx;rw[Jv hM hs];obtain⟨ks,et⟩:=Zn (mA P k r q);rw[<-et] at eo er⊢;obtain⟨w0,cn⟩:=Zn (w.alloc (.cells #[Iz (x:Int),Iz sd] 175));obtain⟨g4,ct⟩:=Zn w.heap.size;have D4:=Zq cn ct;have B0:=Zw cn;have eu:qj w0 s P S C:=hS.same (fun k hk=>B0.block k (hS.Pt k hk)) (fun y k hk=>B0.block k (hS.NG y k hk)) (fun k hk=>B0.block k (hS.Ps k hk)) B0.size;have e7:=hB.below B0;have e9:Cz w0 s 11 (.slice (some ⟨gA,0,none⟩) C.bs.length C.c):=hA▸eu.D.cell 11;have fa:gA<w.heap.size:=(hS.ob.lt gA (by rw[hA];rfl)).2;have gI:Cz w0 gA x (Pz b):=Yb B0 fa hp;have x0:=D4.cell;obtain⟨N,eN⟩:=Zn C.bs.length;rw[<-eN] at e9;have i7:(x:Int)<N:=by rw[eN,hS.bn];omega
 obtain⟨HS,HB,HM,ff,gP,gR,gT,g3,cF,g6,ew,d7,g7,g9,hh,cH⟩:=Yz hS hB hM cl hs eo er et eu e7 D4 B0 eZ e5 e6 eY;clear hS hB hM cl hs eo er et eu e7 D4 B0 eZ e5 e6 eY hA hb hp xX eN fa kx
 go_enter Tryz.func105,Tryz.ntmps105
 go_wp2_with fail;rw[<-cn,<-ct];clear cn;have hl:=ao ct;clear ct
 go_quiet (fail)
 obtain⟨w1,ey⟩:=Zn (w0.drewN nq);rw[<-ey];have B1:Bz w0 w1:=ey▸below_drewN (aa _ _) _;have x1:Cz w1 g4 1 (Iz sd):=(ew.below B1).cell 1;obtain⟨ez,fi,fk⟩:=fY (ew.below B1) (g6.below B1) B1;clear e9 gI x0 ey B1;go_wp2_with fail;refine(yI b M (C.Fs x) k sd r lr w1 fi hk cH gP).mono ?_;rintro e w2⟨rfl,b2⟩;have x2:Cz w2 g4 1 (Iz sd):=(ez.below b2).cell 1;have y2:Cz w2 g4 0 (Iz (x:Int)):=(ez.below b2).cell 0;have ho:g4<w2.heap.size:=(ez.below b2).lt;obtain⟨w3,bE⟩:=Zn (w2.alloc (.cells #[Iz r.1,Iz (mq r.2),Iz (r.2.length:Int)] 75));have B3:Bz w1 w3:=bE▸au b2 _;obtain⟨ht,fq⟩:=dF (fi.below B3) B3;obtain⟨p,ep⟩:=Zn r.1;rw[<-ep] at bE⊢;have EP:=ao ep;clear x1 b2 B3 ep;go_wp2_with fail;rw[<-bE];have ih:=ao bE;clear bE x2 y2 ho;refine(Uu b M (C.Fs x) k sd p r w3 ht hk cH ff EP.symm).mono ?_;rintro e w4⟨A5,c5,rfl,a6,b4⟩;have eA:Bz w1 w4:=dW fq b4;have bp:Bz w0 w4:=dW fk eA;have S4:qj w4 s P S C:=cF.same (fun k hk=>bp.block k (cF.Pt k hk)) (fun y k hk=>bp.block k (cF.NG y k hk)) (fun k hk=>bp.block k (cF.Ps k hk)) bp.size;obtain⟨k0,k1,k2,k3,k4,k5,k6,k7,k8,k9,hy,hC,hD⟩:=S4.gX;obtain⟨L5,cQ⟩:=Zn (r.2.map (kB sd p));have eB:L5.length=r.2.length:=by rw[cQ,br]
 rw[<-cQ] at a6;obtain⟨n5,cS⟩:=Zn r.2.length;rw[<-cS] at a6 eB⊢;have i9:n5<=250:=cS▸g9;have C5:=dP.O a6;obtain⟨j0,il,bH,fx,cT,eC,hE,hG,j1⟩:=QG S4 eA bp cQ eB cS C5 a6 b4;clear S4 eA bp cQ eB cS C5 a6 b4;go_wp2_with fail;have eD:=O2 (.string (str P.code)) (.slice C.ma P.E.length C.mc) (Iz P.tick) (Iz P.low) (Iz P.high) (Iz P.wide) (.slice C.sa P.settle.length C.sc) P.rule P.top P.least P.part A5 n5 c5 L5 q w4 cT (by rw[cT.h];omega) (by rw[cT.h];omega) hE;have eE:kg P.rule P.top P.least P.part L5 q=ks:=by rw[g3.h,fx.h,cH.h,EP.h];rfl
 rw[eE] at eD;have j2:=ao eE;clear eE;refine eD.mono ?_;clear eD;rintro e w5⟨A6,c6,rfl,d8,C6,_,_,b5⟩;obtain⟨G0,cX⟩:=Zn (fun k=>G k/\k<w.heap.size:Nat->Prop);obtain⟨R0,eF⟩:=Zn (fun k=>R k/\k<w.heap.size:Nat->Prop);have eG:Bz w w5:=dW (dW d7 bH) b5;have d9:=d7.h.size;have ea:=bH.h.size;have eb:=b5.size;have fz:w.heap.size<=w3.heap.size:=jE fk.h.size fq.h.size;have S5:dR w5 G0 R0 s P S:=by
  have h1:dR w G0 R0 s P S:=⟨C,HS,fun k hk=>cX▸⟨gy k hk,HS.Pt k hk⟩,fun y k hk=>cX▸⟨gG y k hk,HS.NG y k hk⟩,fun k hk=>eF▸⟨hR k hk,HS.Ps k hk⟩⟩;exact h1.below eG
 have O5:w5.ownsRow w3.heap.size 81 5 (.slice A5 n5 c5) n5 (flat L5):=bP hG b5;have fH:aE w5 g4 175 #[Iz (x:Int),Iz sd]:=(ew.below bH).below b5;obtain⟨hH,bQ,eI,ed,bR,eJ,fT,j3,eK⟩:=QG S5 O5 d8 fH eG cX eF b5 (And.intro d9 (And.intro ea (And.intro eb fz)));clear S5 O5 d8 fH eG cX eF b5 k0 k1 k2 k3 k4 k5 k6 k7 k8 k9 hy hC hD C6 d9 ea eb fz;have bU:w.heap.size<=g4/\g4<w5.heap.size:=⟨hl.h▸af _,ed.lt⟩;have eL:=ao bU;clear bU;obtain⟨nk,c0⟩:=Zn ks.length;have f0:nk=n5:=c0▸eC.h▸gR;rw[<-c0];obtain⟨f1,dc⟩:=dF c0 f0;have iF:nk<=250:=ae;clear c0 f0;go_wp2_with fail
 go_loopw [11,44] (fun v i wr=> ∃m:Nat,m<=nk/\i= Iz (m:Int)/\Hid (∃Gm,Y2 w w5 wr G0 Gm R0 s P S x k M r.2 ks p m v)) (fun _ i _=>nk - (intOf i).toNat)
 case atStart=>
  refine⟨0,aB _,rfl,ao ⟨G0,aM _ _ _ _,?_,Lv.refl _ _,fun j I=> .inl I,fun g hg=>by simp[Value.ownBlock] at hg⟩⟩;have h0:ja M (r.2.take 0) (ks.take 0)=M:=by simp[ja]
  rw[h0,Cs HM.h];exact hH
 case round=>
  obtain⟨m,hm,rfl,HT⟩:=hrel;obtain⟨Gm,J,bt,bb,bc,ax⟩:=HT.h;have ay:∀j,G0 j->j<w.heap.size:=fun j I=>by rw[eJ.h] at I;exact I.2
  have a2:∀j,w.heap.size<=j->¬G0 j:=fun j I h=>cA (ay j h);have dp:wr.ownsRow w3.heap.size 81 5 (.slice A5 n5 c5) n5 (flat L5):=aX bQ fun g hg=>bb.block g (bQ.lt g hg).2 (a2 g (jE ((bQ.lt g hg).1) eK.h.2.2.2));have dS:wr.ownsRow w4.heap.size 2 1 (.slice A6 ks.length c6) ks.length (bZ ks):=aX eI fun g hg=>bb.block g (eI.lt g hg).2 (a2 g (QF ((eI.lt g hg).1) eK.h.1 eK.h.2.1));have eM:aE wr g4 175 #[Iz (x:Int),Iz sd]:=ed.lv bb (a2 g4 eL.1);obtain⟨Av,cv,rfl,_⟩:=gD J
  by_cases bV:m<nk
  ·obtain⟨b6,o6,cc,rfl,hI,hJ,hL⟩:=(Cells.O dS).jK (k:=m) (f1.h▸bV)
   obtain⟨b7,o7,od,rfl,hN,e0,e1,e2,e3,e4,hO⟩:=(dP.O dp).KA (k:=m) (cT.h▸dc.h▸bV);obtain⟨e,he⟩:∃e,r.2[m]?=some e:=⟨_,aj (jE eC.h dc.h)⟩;have hP:od=kB sd p e:=by
    have h1:=hO.h;rw[fx.h,bo,he] at h1;injection h1 with h1;exact h1.symm
   subst hP;have hQ:=gT.h m e he;obtain⟨c',dT,f2,f3⟩:=hQ;have f4:c'=cc:=by have:=hL.h;rw[dT] at this;injection this
   subst f4;have i1:(m:Int)<nk:=ae;have i2:(m:Int)<n5:=cA dc.h;have hf:=zq (x:=x) (k:=k) (p:=p) he dT;have a4:=Ct (M:=M) he dT;obtain⟨fl,a7⟩:=Zn (dC x k p (r.2.take m) (ks.take m));obtain⟨Mm,eO⟩:=Zn (ja M (r.2.take m) (ks.take m));rw[<-a7] at J hf ax⊢;rw[<-eO] at bt a4;have j4:fl.length<=250:=by rw[a7];refine aF (sK _ _) (aF (nA _ _) ae)
   obtain⟨b0,d2,b3,a0,a8,f5,HE,HF,f6,d3,eP,j5,hT,i3,bf,i4,i5⟩:=YC J bt bb bc ax eM he hf a4 bV (And.intro f2 f3) a7 eO a2 ay dp dS;clear J bt bb bc ax eM he hf a4 bV f2 f3 a7 eO a2 ay dp dS dT HT hm;simp only[kB] at e0 e1 e2 e3 e4
   by_cases bh:0<c'
   ·have ef:=ao bh
    obtain⟨r',eQ,f7⟩:=wQ (cs:=ks.take m) ff (aH HE) (xY g7 HE);rw[<-hT.h] at eQ;obtain⟨hU,hV⟩:=dF eQ f7;clear eQ f7;go_wp2_with fail;obtain⟨wq,b9⟩:=Zn (wr.alloc (.cells #[Iz e.id,Iz sd,Iz p,Iz e.aw, .bool e.top] 81));obtain⟨gO,d4⟩:=Zn wr.heap.size;have DO:=Zq b9 d4;have BQ:=Zw b9;have f8:wq.heap.size=wr.heap.size+1:=by rw[b9];simp
    rw[<-b9,<-d4];have eg:w5.heap.size<=wr.heap.size:=b3.size;have f9:w.heap.size<=w5.heap.size:=bR.size;have eR:∀j,wr.heap.size<=j->¬Gm j:=fun j I h=>by
     rcases a0 j h with h1|h1
     ·have:=bf.h j h1;omega
     ·omega
    have gb:¬Gm g4:=fun h=>by
     rcases a0 g4 h with h1|h1
     ·have:=bf.h g4 h1;have:=eL.h.1;omega
     ·have:=eL.h.2;omega
    clear b9 e0 e1 e2 e3 e4 hJ i2 hI hN;have hW:=ao d4;clear d4;refine(vp s P (S.set x Mm) Gm R0 x k Mm r' e e.id c' wq (d2.below BQ) (aD hlen) hU hV rfl hk ⟨cA ef.h,eP.2⟩).mono ?_;rintro en wT⟨rfl,ei,a3⟩;have d5:aE wT gO 81 #[Iz e.id,Iz sd,Iz p,Iz e.aw, .bool e.top]:=DO.lv a3 (eR gO (hW.h▸af _));have eS:aE wT g4 175 #[Iz (x:Int),Iz sd]:=(f5.below BQ).lv a3 gb;have a5:∀g,(Value.slice Av fl.length cv).ownBlock=some g->w5.heap.size<=g/\g<wr.heap.size:=fun g hg=>b0.lt g hg;have OT:wT.ownsRow w5.heap.size 240 6 (.slice Av fl.length cv) fl.length (gW fl):=aX (bP b0 BQ) fun g hg=>a3.block g (cA (a5 g hg)) (a8 g hg);have o0:=d5.cell 0;have o2:=d5.cell 2;have o3:=d5.cell 3;have l0:=eS.cell 0;have l1:=eS.cell 1;have ej:wq.heap.size<=wT.heap.size:=a3.size;have j6:1<=c':=cA ef.h;have j7:=eP.h.2;have j8:=(hh e (aH HE)).2.1;obtain⟨gi,gj,hX,cd,i6,hY,gp,ek⟩:=Dw ei a3 OT a5 eR BQ f8 (And.intro eg (And.intro f9 ej));clear DO BQ f8 eg f9 eR gb ei a3 d5 eS a5 OT ej
    go_wp2_with (at_builtin
                 refine dO LM hX #[Iz e.id,Iz (x:Int),Iz sd,Iz p,Iz c',Iz (e.aw - c')] rfl _ _ rfl rfl rfl rfl (by intro u hu;simp at hu;rcases hu with rfl|rfl|rfl|rfl|rfl|rfl<;>rfl) ae (jE ek.h gp.h) ?_;intro A8 c8 w8 el g8 b8 l8)
    obtain⟨h9,eT,ia⟩:=fY el g8 l8;clear el g8 b8 l8;go_roundw
    case rel=>
     have hf:=HF.h;have a4:=f6.h;rw[if_pos bh] at hf a4;have eU:(fl++[(⟨e.id,x,k,p,c',e.aw - c'⟩:fG)]).length=fl.length+1:=bT;have d6:(⟨e.id,x,k,p,c',e.aw - c'⟩:fG).cells=[Iz e.id,Iz (x:Int),Iz sd,Iz p,Iz c',Iz (e.aw - c')]:=by unfold fG.cells;rw[cH.h]
     obtain⟨z1,z2,z3⟩:=ek.h;have z4:=gp.h;have z5:wT.heap.size<=w8.heap.size:=eT.size;have cf:∀j,grow Gm wq wT j->G0 j\/(w5.heap.size<=j/\j<wT.heap.size):=fun j I=>by
      rcases I with I|⟨h1,h2⟩
      ·rcases a0 j I with h3|⟨h3,h4⟩
       ·exact .inl h3
       ·exact .inr ⟨h3,ae⟩
      ·exact .inr ⟨ae,h2⟩
     have ck:∀j,grow Gm wq wT j->(Value.slice Av fl.length cv).ownBlock≠some j:=fun j I he=>by
      have h5:=cd.h j he;rcases I with I|⟨h1,h2⟩
      ·exact a8 j he I
      ·omega
     refine⟨m+1,cA d3.h,by go_num,ao ⟨grow Gm wq wT,?_,?_,?_,fun j I=>?_,fun g hg=>?_⟩⟩
     ·rw[hf,eU,Jq,d6]
      exact h9
     ·rw[a4]
      have h1:=gi.h;rw[nS (aD hlen),List.set_set] at h1;refine h1.same (fun j I ba=>eT.block j I fun he=>?_) z5;rcases ba with ba|ba
      ·exact ck j ba he.symm
      ·rw[fT.h] at ba
       have:=cd.h j he.symm;omega
     ·refine((b3.then (Lv.bL hY)).trans gj fun j I=>?_).trans (Lv.dy (F:=fun j=>(Value.slice Av fl.length cv).ownBlock=some j) eT fun j I=> .inl I) fun j I=>?_
      ·rcases a0 j I with h3|⟨h3,h4⟩
       ·exact .inl h3
       ·exact .inr h3
      ·exact .inr (cd j I).1
     ·rcases cf j I with h3|⟨h3,h4⟩
      ·exact .inl h3
      ·exact .inr ⟨h3,ae⟩
     ·intro ba
      rcases ia with h3|h3
      ·exact ck g ba (h3▸hg)
      ·have h6:(Value.slice A8 (fl.length+1) c8).ownBlock=some g:=hg
       rw[h3] at h6;injection h6 with h6;rcases cf g ba with h7|⟨h7,h8⟩
       ·have:=bf.h g h7;omega
       ·omega
    case measure=>have:=d3.h;simp[intOf];omega
   ·have hz:c'=0:=cA eP.h.1
    go_wp2_with fail;go_roundw
    case rel=>
     refine⟨m+1,cA d3.h,by go_num,ao ⟨Gm,?_⟩⟩;have hf:=HF.h;have a4:=f6.h;rw[if_neg bh,fe] at hf;rw[if_neg bh] at a4;unfold Y2;rw[hf,a4];exact⟨b0,d2,b3,a0,a8⟩
    case measure=>have:=d3.h;simp[intOf];omega
  ·obtain rfl:m=nk:=ae
   have eV:r.2.take m=r.2:=aL (jE dc.h eC.h);have eW:ks.take m=ks:=aL (cA f1.h);rw[eV,eW] at J bt ax;rw[eV,eW];obtain⟨fl,a7⟩:=Zn (dC x k p r.2 ks);have gq:dC x k r.1 r.2 ks=fl:=by rw[a7,<-EP.h]
   rw[<-a7] at J ax⊢;obtain⟨b0,d2,b3,a0,a8,gv,bf⟩:=yY J bt bb bc ax gq ay;clear J bt bb bc ax HT dp dS eM eV eW a7 gq hm bV a2 ay;go_wp2_with fail;go_ret;have ib:w.heap.size<=w5.heap.size:=bR.size;refine⟨Av,cv,Gm,by rw[gv.h];rfl,?_⟩;rw[gv.h];refine⟨ch b0 ib,d2.mono (fun j I _=>I) fun j I=>by rw[fT.h] at I;exact I.1,(Lv.iD bR b3).mono fun j I=> .inl (by rw[eJ.h] at I;exact I.1),fun j I=>?_,a8⟩;rcases a0 j I with h1|⟨h1,h2⟩
   ·rw[eJ.h] at h1
    exact .inl h1.1
   ·exact .inr ⟨ae,h2⟩
theorem wV (s:Int) (w:World) (h:1<=s/\s<=2):Wz 103 #[Iz s] w fun e w'=>e= .returned (Iz (3 - s))/\w=w':=by
 go_enter Tryz.func103,Tryz.ntmps103
 go_wp2;go_ret;exact⟨rfl,rfl⟩
theorem Fk (s p x:Int) (k:Nat) (w:World) (I:k<2) (hs:s=(k:Int)+1):Wz 104 #[Iz s,Iz p,Iz x] w fun e w'=>e= .returned (.bool (lp k p x))/\w=w':=by
 obtain⟨B,D⟩:=Zn (lp k p x);rw[<-D];rcases mI I with rfl|rfl
 ·obtain rfl:s=1:=ae
  have e:B=decide (x<=p):=by rw[D];simp[lp]
  subst e;clear D hs
  by_cases h:x<=p
  ·have hd:decide (x<=p)=true:=by simpa using h
   go_enter Tryz.func104,Tryz.ntmps104
   go_wp2;go_ret;exact⟨by simp[h],rfl⟩
  ·have hd:decide (x<=p)=false:=by simpa using h
   go_enter Tryz.func104,Tryz.ntmps104
   go_wp2;go_ret;exact⟨by simp[h],rfl⟩
 ·obtain rfl:s=2:=ae
  have e:B=decide (p<=x):=by rw[D];simp[lp]
  subst e;clear D hs
  go_enter Tryz.func104,Tryz.ntmps104
  go_wp2;go_ret;exact⟨rfl,rfl⟩
theorem Ag (s:Nat) (P:PD) (S:Sm) (G R:Nat->Prop) (x:Nat) (w:World) (h:dR w G R s P S) (hx:x<P.count):Wz 98 #[Pz s,Iz (x:Int)] w fun e w'=>e= .returned (.bool true)/\w=w':=by
 obtain⟨C,hS,_⟩:=h;have I:Cz w s 11 (.slice C.A C.bs.length C.c):=hS.D.cell 11;obtain⟨N,J⟩:=Zn C.bs.length;rw[<-J] at I;have i1:(x:Int)<N:=by rw[J,hS.bn];omega
 clear hS J hx
 go_enter Tryz.func98,Tryz.ntmps98
 go_wp2;go_ret;exact⟨bT,rfl⟩
theorem Fl (s:Nat) (P:PD) (S:Sm) (G R:Nat->Prop) (x:Nat) (sd q:Int) (w:World) (h:dR w G R s P S) (hx:x<P.count) (hs:1<=sd/\sd<=2) (hq:1<=q/\q<=1000000):Wz 63 #[Pz s,Iz (x:Int),Iz sd,Iz q] w fun e w'=>e= .returned (.bool true)/\w=w':=by
 obtain⟨q1,q2⟩:=hq;obtain rfl|rfl:sd=1\/sd=2:=ae
 ·go_enter Tryz.func63,Tryz.ntmps63
  go_wp2_with fail;refine(Ag s P S G R x w h hx).mono ?_;rintro e u⟨rfl,rfl⟩;go_wp2_with fail;go_ret;exact⟨bT,rfl⟩
 ·go_enter Tryz.func63,Tryz.ntmps63
  go_wp2_with fail;refine(Ag s P S G R x w h hx).mono ?_;rintro e u⟨rfl,rfl⟩;go_wp2_with fail;go_ret;exact⟨bT,rfl⟩
theorem LN (s:Nat) (P:PD) (S:Sm) (G R:Nat->Prop) (w:World) (h:dR w G R s P S):Wz 55 #[Pz s] w fun e w'=>e= .returned (Iz (cK S:Int))/\w=w':=by
 obtain⟨C,hS,_⟩:=h;have I:Cz w s 12 (.map (some C.mb)):=hS.D.cell 12;have hlen:=hS.mp.len Tryz.underlying107 3;clear hS
 go_enter Tryz.func55,Tryz.ntmps55
 go_wp2;go_ret;exact⟨rfl,rfl⟩
theorem Sn (s:Nat) (P:PD) (S:Sm) (G R:Nat->Prop) (x k:Nat) (M:BM) (sd id p aw:Int) (w:World) (h:dR w G R s P S) (hM:S[x]?=some M) (J:k<2) (bE:sd=(k:Int)+1) (a4:dZ id) (a5:∀(y:Nat) (N:BM),S[y]?=some N->∀e∈N.I,e.id≠id) (a6:cK S<250) (hp:P.fy x p=0) (hq:1<=aw/\aw<=1000000):
  Wz 109 #[Pz s,Iz (x:Int),Iz id,Iz sd,Iz p,Iz aw] w fun e w'=>e= .returned (Iz 0)/\dR w' (grow G w w') R s P (oW S x k id p aw)/\Lv G w w':=by
 have bH:=h;obtain⟨C,hS,bQ,a7,hR⟩:=h;have hlen:=(az.1 hM).1;have kx:x<P.count:=by rw[<-hS.sn];exact hlen
 obtain⟨b,M',hb,ay,hB⟩:=hS.book kx;rw[hM] at ay;injection ay with ay;subst ay;obtain⟨gA,hA,b9⟩:=mB hS.ob hb;have hf:C.f id=none:=by
  cases hf:C.f id with
  |none=>rfl
  |some v=>
   obtain⟨y,N,e,h1,h2,h3,_⟩:=hS.bw id v hf;exact absurd h3 (a5 y N h1 e h2)
 have a8:=pU hS.mp a4;rw[hf] at a8;simp only[Option.getD_none,tC] at a8;have bR:=hS.mp.len Tryz.underlying107 3;obtain⟨cS,ba⟩:=Zn (cK S:Nat);rw[<-ba] at bR a6;have cX:(cS:Int)<250:=ae;obtain⟨k0,k1,k2,k3,k4,k5,k6,k7,k8,k9,cd,cf,ck⟩:=hS.gX;obtain⟨HS,HB,HM,cl,HF,HA,bU,bV,bb,HP,cm,b0,b2,HQ,bc⟩:=V8 hS hB hM bH hf hA hb a4 a5 hp bE ba a6 hq kx;clear hS hB hM bH hf hA hb a4 a5 hp bE ba hq a6
 go_enter Tryz.func109,Tryz.ntmps109
 go_wp2_with fail;refine(Ag s P S G R x w cl.h bc.h).mono ?_;rintro e u⟨rfl,rfl⟩;go_wp2_with fail;refine(pQ P C.ma C.mc C.sa C.sc (x:Int) p w HS.h.pd).mono ?_;rintro e w1⟨rfl,b1⟩;rw[Jm P bc.h,HP.h];have S1:qj w1 s P S C:=HS.h.same (fun k J=>b1.block k (HS.h.Pt k J)) (fun y k J=>b1.block k (HS.h.NG y k J)) (fun k J=>b1.block k (HS.h.Ps k J)) b1.size;obtain⟨j0,j1,j2,j3,j4,j5,j6,j7,j8,j9,cn,bf,ct⟩:=S1.gX;obtain⟨dS,a0,b3⟩:=mB S1.ob bU.h;have ax:=HA.h;rw[a0] at ax;injection ax with ax;injection ax with ax _;subst ax;rw[a0] at bf;obtain⟨N,eN⟩:=Zn C.bs.length;rw[<-eN] at bf;have dT:(x:Int)<N:=by rw[eN,S1.bn];have:=bc.h;omega
 obtain⟨bh,bp,d2,EN⟩:=mh S1 b1 a0 eN;clear k0 k1 k2 k3 k4 k5 k6 k7 k8 k9 cd cf ck j0 j1 j2 j3 j4 j5 j6 j7 j8 j9 cn b9 a8 bR S1 b1 a0 eN;go_wp2_with fail;refine(R8 b M (C.Fs x) k sd id p aw w1 (HB.h.below bp.h) J cm.h bV.h (fun e he=>bb.h x M HM.h e he) (QF (Pu HM.h) b2.h b0.h) HQ.h).mono ?_;rintro e w2⟨rfl,b4,L2⟩;have off:=fun k (J:C.QH s k) (hF:C.Fs x k)=>(bh.h.off x k hF).1 J;have a3:=bh.h.D.lv L2 (off s (.inl rfl));have d3:Cz w2 s 12 (.map (some C.mb)):=a3.cell 12;have b5:=bh.h.mp.lv L2 (off _ (.inr (.inl rfl)));obtain⟨w3,c0,a2,b6⟩:=b5.put Tryz.underlying107 bV.h (Iz (x:Int)) (cA HS.h.cnt);rw[HF.h] at a2;simp only[tC] at a2;obtain⟨cv,cF,cH,bt⟩:=mh b4 L2 a2 b6;clear bf ct b3 a3 b5 b4 L2 a2 b6;go_wp2_with fail;go_ret;have cs:=lB HM.h (M.add k id p aw);have al:=Uv M k id p aw;have b7:cK (S.set x (M.add k id p aw))=cK S+1:=ae;have hm:=cH.h;rw[if_neg bT,<-b7] at hm;have L3:Lv (fun k=>C.Fs x k\/k=C.mb) w w3:=((Lv.iD bp.h cF.h).mono (G:=fun k=>C.Fs x k\/k=C.mb) fun k J=> .inl (.inl J)).then (Lv.dy bt.h fun k J=> .inl (.inr (by injection J with J;exact J.symm)));have b8:∀k,C.Fs x k->k≠C.mb:=fun k J e=>(HS.h.off x k J).1 (.inr (.inl e));have dc:w.heap.size<=w1.heap.size:=bp.h.size;have dp:w2.heap.size<=w3.heap.size:=bt.h.size;have B3:cz w3 (grow (C.Fs x) w w3) b (M.add k id p aw):=by
  have h4:cz w3 (grow (C.Fs x) w1 w2) b (M.add k id p aw):=cv.h.same fun j hj hF=>bt.h.block j hj fun e=>by
   injection e with e;rcases hF with hF|⟨h5,_⟩
   ·exact b8 j hF e
   ·have:=HS.h.Pt C.mb (.inr (.inl rfl));omega
  refine h4.mono fun j hj _=>?_;rcases hj with hj|⟨h5,h6⟩
  ·exact .inl hj
  ·exact .inr ⟨ae,ae⟩
 have cQ:=HS.h.change (w':=w3) bU.h HM.h L3 B3 hm
  (fun y N' e0 h1 h2=>by
   rcases nX h1 with⟨rfl,rfl⟩|⟨d4,h1⟩
   ·rcases Co h2 with⟨h3,_⟩|⟨e1,h3,h4,_⟩
    ·rw[if_pos h3]
    ·rw[<-h4,if_neg (bb.h y M HM.h e1 h3)]
     exact HS.h.fw y M e1 HM.h h3
   ·rw[if_neg (bb.h y N' h1 e0 h2)]
    exact HS.h.fw y N' e0 h1 h2)
  (fun i v hv=>by
   by_cases hi:i=id
   ·rw[if_pos hi] at hv
    injection hv with hv;obtain⟨e1,h3,h4⟩:=(Sb M k id p aw).1;exact⟨x,_,e1,aD hlen,h3,h4.trans hi.symm,hv.symm⟩
   ·rw[if_neg hi] at hv
    obtain⟨y,N',e0,h1,h2,h3,h4⟩:=HS.h.bw i v hv
    by_cases hy:y=x
    ·subst hy
     rw[HM.h] at h1;injection h1 with h1;subst h1;obtain⟨e1,h5,h6⟩:=(Sb M k id p aw).2 e0 h2;exact⟨y,_,e1,aD hlen,h5,h6.trans h3,h4⟩
    ·exact⟨y,N',e0,by rw[aZ (fun e=>hy e.symm)];exact h1,h2,h3,h4⟩)
  (fun kk rr cT=>by
   rcases Sc cT with h1|⟨r0,h1,h2⟩
   ·rw[h1];exact HP.h
   ·rw[<-h2]
    exact HS.h.pr x kk M r0 HM.h h1)
  (by rw[b7];have:=b2.h;have:=b0.h;omega)
 rw[LG HM.h];refine⟨rfl,⟨_,cQ,fun k J=> .inl (bQ k J),fun y j hj=>?_,hR⟩,L3.mono fun k J=> .inl ?_⟩
 ·have O:rF C x w w3 y j:=hj
  unfold rF at O
  split at O
  ·rcases O with O|O
   ·exact .inl (a7 x j O)
   ·exact .inr O
  ·exact .inl (a7 y j O)
 ·rcases J with J|rfl
  ·exact a7 x k J
  ·exact bQ _ (.inr (.inl rfl))
theorem LO (s:Nat) (P:PD) (S:Sm) (G R:Nat->Prop) (id:Int) (w:World) (h:dR w G R s P S) (ay:dZ id) (a0:∀(y:Nat) (N:BM),S[y]?=some N->∀e∈N.I,e.id≠id):
  Wz 40 #[Pz s,Iz id] w fun e w'=>e= .returned (.tuple #[Iz 0, .agg #[Iz 0,Iz 0,Iz 0,Iz 0, .bool false], .bool false])/\Bz w w':=by
 obtain⟨C,hS,a7,a8,hR⟩:=h;have hf:C.f id=none:=by
  cases hf:C.f id with
  |none=>rfl
  |some v=>
   obtain⟨y,N,e,h1,h2,h3,_⟩:=hS.bw id v hf;exact absurd h3 (a0 y N h1 e h2)
 obtain⟨wz,O⟩:=Zn (w.alloc (.cells #[Iz 0,Iz 0,Iz 0,Iz 0, .bool false] 81));obtain⟨g5,ax⟩:=Zn w.heap.size;have D5:=Zq O ax;have BZ:=Zw O;have a2:=pU (hS.mp.below BZ) ay;rw[hf] at a2;simp only[Option.getD_none,tC] at a2;have ba:Cz wz s 12 (.map (some C.mb)):=(hS.D.below BZ).cell 12;have a3:w.heap.size<=g5:=ae;obtain⟨J,a5,a6⟩:=fY D5 BZ a3;clear hS hf D5 BZ a3 a0 ay
 go_enter Tryz.func40,Tryz.ntmps40
 go_upto_region 1 with(fail)
 rw[<-O,<-ax];clear O ax;have z0:=J.h.cell 0;have z1:=J.h.cell 1;have z2:=J.h.cell 2;have z3:=J.h.cell 3;have z4:=J.h.cell 4;have y0:=J.h.frozen 0;have y1:=J.h.frozen 1;have y2:=J.h.frozen 2;have y3:=J.h.frozen 3;have y4:=J.h.frozen 4;have hw:=bO (us:=[Iz 0,Iz 0,Iz 0,Iz 0, .bool false]) J rfl;have hb:=bA (us:=[Iz 0,Iz 0,Iz 0,Iz 0, .bool false]) (i:=0) a6 a5;simp only[fW] at hw hb;obtain⟨HW,HB⟩:=dF hw hb;clear hw hb;go_wp2_with fail
 (try simp only[Exit.inBlock,Exit.then])
 obtain⟨wf,a4⟩:=Zn (((((wz.setCell ⟨g5,0,none⟩ (Iz 0)).setCell ⟨g5,0+1,none⟩ (Iz 0)).setCell ⟨g5,0+1+1,none⟩ (Iz 0)).setCell ⟨g5,0+1+1+1,none⟩ (Iz 0)).setCell ⟨g5,0+1+1+1+1,none⟩ (.bool false));have hw:=HW.h;have hb:=HB.h;rw[<-a4] at hw hb;refine iv a4 ?_;have r0:=hw.cell 0;have r1:=hw.cell 1;have r2:=hw.cell 2;have r3:=hw.cell 3;have r4:=hw.cell 4;clear z0 z1 z2 z3 z4 y0 y1 y2 y3 y4;refine bodyPost_ret (v:= .tuple #[Iz 0, .agg #[Iz 0,Iz 0,Iz 0,Iz 0, .bool false], .bool false]) (by simp[results,Tryz.results40,go_sem,r0,r1,r2,r3,r4];try rfl) rfl ?_;exact⟨rfl,hb⟩
theorem LP (s:Nat) (P:PD) (S:Sm) (G R:Nat->Prop) (x k:Nat) (M:BM) (r:iQ) (e:dn) (id:Int) (w:World) (h:dR w G R s P S) (hM:S[x]?=some M) (hr:r∈M.side k) (he:e∈r.2) (a5:e.id=id) (hk:k<2):
  Wz 40 #[Pz s,Iz id] w fun en w'=>en= .returned (.tuple #[Iz (x:Int), .agg #[Iz id,Iz ((k:Int)+1),Iz r.1,Iz e.aw, .bool e.top], .bool true])/\Bz w w':=by
 obtain⟨C,hS,bV,b0,hR⟩:=h;obtain⟨kf,ki,b3,b4,kx⟩:=hS.known hM hr he;rw[a5] at kf ki;obtain⟨b,M',hb,ay,hB⟩:=hS.book kx;rw[hM] at ay;injection ay with ay;subst ay;obtain⟨gA,hA,hp⟩:=mB hS.ob hb;obtain⟨wz,a0⟩:=Zn (w.alloc (.cells #[Iz 0,Iz 0,Iz 0,Iz 0, .bool false] 81));obtain⟨g5,a2⟩:=Zn w.heap.size;have D5:=Zq a0 a2;have BZ:=Zw a0;have a6:=pU (hS.mp.below BZ) ki;rw[kf] at a6;simp only[qo,oG] at a6;have O:=hS.D.below BZ;have a8:Cz wz s 11 (.slice (some ⟨gA,0,none⟩) C.bs.length C.c):=hA▸O.cell 11;have bp:Cz wz s 12 (.map (some C.mb)):=O.cell 12;have ba:gA<w.heap.size:=(hS.ob.lt gA (by rw[hA];rfl)).2;have bt:Cz wz gA x (Pz b):=Yb BZ ba hp;obtain⟨N,eN⟩:=Zn C.bs.length;rw[<-eN] at a8;have b5:(x:Int)<N:=by rw[eN,hS.bn];omega
 have bb:w.heap.size<=g5:=ae;obtain⟨bc,bE,bH,HB,HR,HE,bQ⟩:=yY D5 BZ bb (hB.below BZ) hr he a5;clear hS hb hM hr he ki kf hA eN kx D5 BZ bb hB a5 O ba hp
 go_enter Tryz.func40,Tryz.ntmps40
 go_upto_region 1 with(fail)
 rw[<-a0,<-a2];clear a0;have b6:=ao a2;clear a2;go_wp2_with fail;refine(yH b M (C.Fs x) k ((k:Int)+1) r e id wz HB.h hk rfl HR.h HE.h bQ.h).mono ?_;rintro en w2⟨rfl,b2⟩;obtain⟨w3,a3⟩:=Zn (w2.alloc (.cells #[Iz id,Iz ((k:Int)+1),Iz r.1,Iz e.aw, .bool e.top] 81));obtain⟨g9,a7⟩:=Zn w2.heap.size;have D9:=Zq a3 a7;have B3:Bz wz w3:=a3▸au b2 _;have bf:=bc.h.below B3;have bR:Hid (g9≠g5):=ao (by have h1:=bc.h.lt;have h2:=b2.size;omega);obtain⟨ax,bU,I⟩:=fY D9 B3 bf;clear b2 D9 B3 bf a8 bp bt a6
 go_upto_region 5 with(fail)
 rw[<-a3,<-a7];clear a3 a7;obtain⟨Fs,a4⟩:=Zn (fun j=>j=g9:Nat->Prop);have m9:Fs g9:=by rw[a4]
 have n9:∀j,Fs j->j≠g5:=fun j hj e=>by
  rw[a4] at hj;exact bR.h (hj.symm.trans e)
 have d0:∀u,aI Fs w3.drew u->Cz u g9 0 (Iz id):=fun u hu=>(hu.cell m9).trans (ax.h.cell 0);have d1:∀u,aI Fs w3.drew u->Cz u g9 1 (Iz ((k:Int)+1)):=fun u hu=>(hu.cell m9).trans (ax.h.cell 1);have d2:∀u,aI Fs w3.drew u->Cz u g9 2 (Iz r.1):=fun u hu=>(hu.cell m9).trans (ax.h.cell 2);have d3:∀u,aI Fs w3.drew u->Cz u g9 3 (Iz e.aw):=fun u hu=>(hu.cell m9).trans (ax.h.cell 3);have d4:∀u,aI Fs w3.drew u->Cz u g9 4 (.bool e.top):=fun u hu=>(hu.cell m9).trans (ax.h.cell 4);have z0:=I.h.cell 0;have z1:=I.h.cell 1;have z2:=I.h.cell 2;have z3:=I.h.cell 3;have z4:=I.h.cell 4;have y0:=I.h.frozen 0;have y1:=I.h.frozen 1;have y2:=I.h.frozen 2;have y3:=I.h.frozen 3;have y4:=I.h.frozen 4;have hw:=bO (us:=[Iz id,Iz ((k:Int)+1),Iz r.1,Iz e.aw, .bool e.top]) I.h rfl;have hb:=bA (us:=[Iz id,Iz ((k:Int)+1),Iz r.1,Iz e.aw, .bool e.top]) (i:=0) bH.h (dW bE.h bU.h);have hh:aI Fs w3.drew (fW w3 g5 0 [Iz id,Iz ((k:Int)+1),Iz r.1,Iz e.aw, .bool e.top]).drew:=fun j hj=>mJ (n9 j hj);simp only[fW] at hw hb hh;obtain⟨HW,HB,HH,b7⟩:=mh hw hb hh a4;clear hw hb hh m9 n9 a4;refine bx (R:=aI Fs) 99999 [3] [0,1,2,3,4] (by kernel_rfl) (aI.tr _) (aI.J _) (by kernel_rfl) (fun _ _ _ _ _ h=>h) ?_;refine Yt ?_;clear d0 d1 d2 d3 d4;refine Ym fun K hK=>?_;refine Yo hK (HH.h) ?_;refine Yt ?_;refine aT ?_;clear z0 z1 z2 z3 z4 y0 y1 y2 y3 y4;go_wp2_with fail
 (try simp only[Exit.inBlock,Exit.then])
 obtain⟨wf,bh⟩:=Zn ((((((w3.setCell ⟨g5,0,none⟩ (Iz id)).setCell ⟨g5,0+1,none⟩ (Iz ((k:Int)+1))).setCell ⟨g5,0+1+1,none⟩ (Iz r.1)).setCell ⟨g5,0+1+1+1,none⟩ (Iz e.aw)).setCell ⟨g5,0+1+1+1+1,none⟩ (.bool e.top)).drew);have hw:=HW.h.drew;have hb:=HB.h.drew;rw[<-bh] at hw hb;refine iv bh ?_;have r0:=hw.cell 0;have r1:=hw.cell 1;have r2:=hw.cell 2;have r3:=hw.cell 3;have r4:=hw.cell 4;refine bodyPost_ret (v:= .tuple #[Iz (x:Int), .agg #[Iz id,Iz ((k:Int)+1),Iz r.1,Iz e.aw, .bool e.top], .bool true]) (by simp[results,Tryz.results40,go_sem,r0,r1,r2,r3,r4];try rfl) rfl ?_;exact⟨rfl,hb⟩
theorem rH (N:Nat) (tp:kJ) (i:Nat):(lC N tp)[i]?=if i<N*6 then (qQ tp (i / 6))[i % 6]? else none:=by
 split
 ·rename_i h
  have:=ig (uC tp) (l:=List.range N) (i:=i / 6) (x:=i / 6) (i % 6) (oF _ ae) (rS ae);rw[(ae:i / 6*6+i % 6=i)] at this;exact this
 ·rw[cO]
  rw[ph];omega
theorem CE (h:∀k,k<2->tp x k=tp' x k):qQ tp x=qQ tp' x:=by
 unfold qQ wS wU;rw[h 0 ae,h 1 ae]
theorem zr (h:∀x k,x<N->k<2->tp x k=tp' x k):lC N tp=lC N tp':=by
 apply fA;intro i;rw[rH,rH]
 split
 ·rw[CE fun k D=>h (i / 6) k ae D]
 ·rfl
def uE (tp:kJ) (x k:Nat) (p q:Int):kJ:=fun y m=>if y=x∧m=k then some (p,q) else tp y m
theorem PF (hx:x<N) (O:k<2) (p q:Int):
  (((lC N tp).set (x*6+k) (.bool true)).set (x*6+(2+k)) (Iz p)).set (x*6+(4+k)) (Iz q)=lC N (uE tp x k p q):=by
 apply fA;intro i;rw[rH];simp only[List.getElem?_set,jn,ph,rH]
 by_cases hi:i<N*6
 ·by_cases J:i / 6=x
  ·obtain⟨b,hb⟩:=Zn (i % 6)
   have I:i=x*6+b:=ae;have D:b<6:=ae;subst I;have e1:(x*6+b) / 6=x:=ae;have e2:(x*6+b) % 6=b:=ae;rw[e1,e2];obtain rfl|rfl:k=0\/k=1:=ae
   ·match b,D with
    |0,_=>simp[hi,qQ,wS,wU,uE]
    |1,_=>simp[hi,qQ,wS,wU,uE]
    |2,_=>simp[hi,qQ,wS,wU,uE]
    |3,_=>simp[hi,qQ,wS,wU,uE]
    |4,_=>simp[hi,qQ,wS,wU,uE]
    |5,_=>simp[hi,qQ,wS,wU,uE]
   ·match b,D with
    |0,_=>simp[hi,qQ,wS,wU,uE]
    |1,_=>simp[hi,qQ,wS,wU,uE]
    |2,_=>simp[hi,qQ,wS,wU,uE]
    |3,_=>simp[hi,qQ,wS,wU,uE]
    |4,_=>simp[hi,qQ,wS,wU,uE]
    |5,_=>simp[hi,qQ,wS,wU,uE]
  ·have hc:qQ (uE tp x k p q) (i / 6)=qQ tp (i / 6):=CE fun m _=>by unfold uE;rw[if_neg (fun h=>J h.1)]
   rw[hc,if_neg ae,if_neg ae,if_neg ae]
 ·rw[if_neg ae,if_neg ae,if_neg ae,if_neg hi,if_neg hi]
def Kf (tp:kJ) (n j:Nat):kJ:=fun x k=>if x<n∨(x=n∧k<j) then tp x k else none
theorem So {n j:Nat} (p q:Int) (h:tp n j=some (p,q)):uE (Kf tp n j) n j p q=Kf tp n (j+1):=by
 funext x k
 unfold uE Kf
 by_cases D:x=n/\k=j
 ·rw[if_pos D,if_pos (.inr ⟨D.1,ae⟩),D.1,D.2,h]
 ·rw[if_neg D]
  by_cases I:x<n\/x=n/\k<j
  ·rw[if_pos I,if_pos ae]
  ·rw[if_neg I,if_neg ae]
theorem Sp {n j:Nat} (h:tp n j=none):Kf tp n j=Kf tp n (j+1):=by
 funext x k
 unfold Kf
 by_cases D:x=n/\k=j
 ·rw[if_neg ae,if_pos (.inr ⟨D.1,ae⟩),D.1,D.2,h]
 ·by_cases I:x<n\/x=n/\k<j
  ·rw[if_pos I,if_pos ae]
  ·rw[if_neg I,if_neg ae]
theorem Uw (N:Nat) (tp:kJ) (n:Nat):lC N (Kf tp n 2)=lC N (Kf tp (n+1) 0):=zr fun x k _ D=>by
 unfold Kf
 by_cases h:x<n\/x=n/\k<2
 ·rw[if_pos h,if_pos ae]
 ·rw[if_neg h,if_neg ae]
theorem Ux (N:Nat) (tp:kJ):lC N (Kf tp N 0)=lC N tp:=zr fun x k hx _=>by
 unfold Kf;rw[if_pos (.inl hx)]
theorem Sq (tp:kJ):Kf tp 0 0=fun _ _=>none:=by
 funext x k
 unfold Kf;rw[if_neg ae]
theorem PG (n:Nat):(madeCells (Value.agg #[.bool false, .bool false,Iz 0,Iz 0,Iz 0,Iz 0]).cells (n*6)).toList=lC n (fun _ _=>none):=by
 apply fA;intro j;rw[rH]
 by_cases D:j<n*6
 ·rw[if_pos D]
  have J:(madeCells (Value.agg #[.bool false, .bool false,Iz 0,Iz 0,Iz 0,Iz 0]).cells (n*6)).toList[j]?=some ((Value.agg #[.bool false, .bool false,Iz 0,Iz 0,Iz 0,Iz 0]).cells[j % 6]!):=by
   simp[madeCells,D,Value.cells]
  rw[J];have I:j % 6<6:=oF _ ae;obtain⟨m,hm⟩:=Zn (j % 6);rw[<-hm] at I⊢
  match m,I with
  |0,_=>rfl
  |1,_=>rfl
  |2,_=>rfl
  |3,_=>rfl
  |4,_=>rfl
  |5,_=>rfl
 ·rw[if_neg D,cO (by simp[madeCells];omega)]
theorem Fm (h:M.side k=[]):yG M k=none:=by unfold yG;rw[h]
theorem Fo (h:M.side k=r::l):yG M k=some (r.1,mq r.2):=by unfold yG;rw[h]
theorem Sr (h:S[x]?=some M):lU S x k=yG M k:=by unfold lU;rw[h]
theorem vr (s:Nat) (P:PD) (S:Sm) (G R:Nat->Prop) (w:World) (h:dR w G R s P S):
  Wz 58 #[Pz s] w fun e w'=> ∃A c,e= .returned (.slice A P.count c)/\w'.ownsRow w.heap.size 171 6 (.slice A P.count c) P.count (lC P.count (lU S))/\Bz w w':=by
 obtain⟨C,hS,eb,ed,hR⟩:=h;have ba:=hS.pd.right.cnt;obtain⟨N,eN⟩:=Zn P.count;have bb:C.bs.length=N:=by rw[hS.bn,eN]
 have ck:Cz w s 11 (.slice C.A N C.c):=bb▸hS.D.cell 11;have d9:N<=21:=eN▸ba.1;obtain⟨i,hi,hz,b5,b6⟩:=Sj.info;have cl:∀w:World,(Instr.makeSlice 118 (Iz (N:Int)) (Iz (N:Int))).run Tryz.prog w= .ok (.slice (some ⟨w.heap.size,0,none⟩) N N) (w.alloc (.cells (madeCells (Value.agg #[.bool false, .bool false,Iz 0,Iz 0,Iz 0,Iz 0]).cells (N*6)) 171)):=fun w=>by
  have hr:=run_make (P:=Tryz.prog) w 118 171 i _ Sj.under hi hz .i64 .i64 N N ae ae (by rw[b6];omega) ae;rw[b5] at hr;exact hr
 obtain⟨MC,a3⟩:=Zn (madeCells (Value.agg #[.bool false, .bool false,Iz 0,Iz 0,Iz 0,Iz 0]).cells (N*6));rw[<-a3] at cl;have a4:(w.alloc (.cells MC 171)).ownsRow w.heap.size 171 6 (.slice (some ⟨w.heap.size,0,none⟩) N N) N (lC N (fun _ _=>none)):=by
  have:=cI (base:=w.heap.size) (size:=6) (e:=171) w MC N (af _) (by unfold maxLen;omega) (a3▸size_madeCells _ _);rw[a3,PG] at this;rw[a3];exact this
 obtain⟨w1,bc⟩:=Zn (w.alloc (.cells MC 171));obtain⟨gT,bf⟩:=Zn w.heap.size;have B1:=Zw bc;rw[<-bc,<-bf] at a4;have ea:=Yb B1 hS.D.lt ck;obtain⟨tp,bh⟩:=Zn (lU S);rw[<-eN,<-bh];obtain⟨HS,HN,b7,cm,b8,ef,bp,cn⟩:=Dw hS eN a4 B1 bh bb bf hS.D.lt;clear hS eN a4 B1 bh bb hi hz b5 b6 a3 ba bf
 go_enter Tryz.func58,Tryz.ntmps58
 have eg:=cn.h;go_wp2_with fail;rw[<-bc,<-bp.h]
 go_loopw [21] (fun v wr=> ∃n:Nat,n<=N/\v= Iz (n:Int)/\Hid (wr.ownsRow w.heap.size 171 6 (.slice (some ⟨gT,0,none⟩) N N) N (lC N (Kf tp n 0))/\Bz w wr)) (fun v _=>N - (intOf v).toNat)
 case atStart=>exact⟨0,aB _,rfl,ao ⟨by rw[Sq];exact ch b7 (bu bp.symm),cm⟩⟩
 case round=>
  obtain⟨n,hn,rfl,HM⟩:=hrel;obtain⟨I,hB⟩:=HM.h
  by_cases bt:n<N
  ·obtain⟨b,M,hb,hM,ct⟩:=HS.h.book (HN.h▸bt)
   obtain⟨gA,hA,hp⟩:=mB HS.ob hb;have cv:=(HS.ob.lt gA (by rw[hA];rfl)).2;have cF:=Yb hB cv hp;have i1:(n:Int)<N:=ae;obtain⟨wo,rfl⟩:=Zn wr;obtain⟨wi,a5⟩:=Zn (wo.alloc (.cells #[Iz 1,Iz 2] 3));obtain⟨gI,bE⟩:=Zn wo.heap.size;have DI:=Zq a5 bE;have BI:=Zw a5;have cH:=bP I BI;have cQ:=hB.trans (BI.mono hB.size);have cS:∀j,lU S n j=yG M j:=fun j=>Sr hM;obtain⟨cT,cX,dc,b9,cd,bH,dp,ei⟩:=Dw cH cQ DI ct cS bt bE hA;rw[hA];go_wp2_with fail;rw[<-a5,<-dp.h];clear cF a5 bE
   go_loopw [28] (fun v wr=> ∃j:Nat,j<=2/\v= Iz (j:Int)/\Hid (wr.ownsRow w.heap.size 171 6 (.slice (some ⟨gT,0,none⟩) N N) N (lC N (Kf tp n j))/\Bz w wr/\aE wr gI 3 #[Iz 1,Iz 2])) (fun v _=>2 - (intOf v).toNat)
   case atStart=>exact⟨0,ae,rfl,ao ⟨cT,cX,dc⟩⟩
   case round=>
    obtain⟨j,hj,rfl,HJ⟩:=hrel;obtain⟨I,hB,a6⟩:=HJ.h
    by_cases a7:j<2
    ·have y:Cz wr gI j (Iz ((j:Int)+1)):=by
      obtain rfl|rfl:j=0\/j=1:=ae
      ·exact a6.cell 0
      ·exact a6.cell 1
     have j1:(j:Int)<2:=ae;obtain⟨a0,HB,HD,ax⟩:=mh I hB a6 a7;go_wp2_with fail
     cases a2:M.side j with
     |nil=>
      refine(uA b M (C.Fs n) j ((j:Int)+1) wr (b9.below HB) ax rfl a2).mono ?_;rintro e w2⟨rfl,b2⟩;have ht:tp n j=none:=by rw[b8.h,cd.h,Fm a2]
      obtain⟨HT,bQ⟩:=dF ht b2;clear a2 ht b2;go_wp2_with fail;go_roundw
      case rel=>
       refine⟨j+1,cA ax.h,by go_num,ao ⟨?_,?_,?_⟩⟩
       ·rw[<-Sp HT.h]
        exact bP a0 (au bQ _)
       ·exact HB.trans ((au bQ _).mono HB.size)
       ·exact HD.below (au bQ _)
      case measure=>have:=ax.h;simp[intOf];omega
     |cons r lr=>
      refine(yI b M (C.Fs n) j ((j:Int)+1) r lr wr (b9.below HB) ax rfl a2).mono ?_;rintro e w2⟨rfl,b2⟩;have ht:tp n j=some (r.1,mq r.2):=by rw[b8.h,cd.h,Fo a2]
      obtain⟨w3,a8⟩:=Zn (w2.alloc (.cells #[Iz r.1,Iz (mq r.2),Iz (r.2.length:Int)] 75));obtain⟨g8,bR⟩:=Zn w2.heap.size;have D8:=Zq a8 bR;have B3:Bz wr w3:=a8▸au b2 _;have O:=bP a0 B3;have cf:∀j,j=g8->j≠gT:=by
       rintro j rfl e;obtain⟨cur,hc⟩:=bY O (g:=gT) rfl;rw[<-e] at hc;exact jY D8 hc (by decide) rfl
      have ay:gI≠gT:=by
       rintro e;obtain⟨cur,hc⟩:=bY O (g:=gT) rfl;rw[<-e] at hc;exact jY (HD.below B3) hc (by decide) rfl
      obtain⟨T,eT⟩:=Zn (lC N (Kf tp n j));rw[<-eT] at O;have dS:T.length=N*6:=by rw[eT,ph]
      have dT:=bH.h;have a7:=ax.h;have q0:∃v,T[n*6+j]?=some v:=⟨_,aj ae⟩;have q1:∃v,T[n*6+(2+j)]?=some v:=⟨_,aj ae⟩;have q2:∃v,T[n*6+(4+j)]?=some v:=⟨_,aj ae⟩;obtain⟨v0,q0⟩:=q0;obtain⟨v1,q1⟩:=q1;obtain⟨v2,q2⟩:=q2;have o1:=jM O q0 (.bool true);have bU:(T.set (n*6+j) (.bool true))[n*6+(2+j)]?=some v1:=by rw[aZ ae];exact q1
      have o2:=jM o1 bU (Iz r.1);have bV:((T.set (n*6+j) (.bool true)).set (n*6+(2+j)) (Iz r.1))[n*6+(4+j)]?=some v2:=by rw[aZ ae,aZ ae];exact q2
      have o3:=jM o2 bV (Iz (mq r.2));rw[eT,PF dT a7,So _ _ ht] at o3;have c0:=dI O q0;have c1:=dI o1 bU;have c2:=dI o2 bV;have f0:=fJ O (n*6+j);have f1:=fJ o1 (n*6+(2+j));have f2:=fJ o2 (n*6+(4+j));have d2:=dI O q1;have d3:=dI O q2;have d4:=fJ O (n*6+(2+j));have d5:=fJ O (n*6+(4+j));rw[<-bg] at c1 f1 c2 f2 d2 d3 d4 d5;have b0:=bu bp.symm;have Bf:=(((HB.trans (B3.mono HB.size)).setCell b0 (p:=⟨gT,n*6+j,none⟩) (.bool true)).setCell b0 (p:=⟨gT,n*6+(2+j),none⟩) (Iz r.1)).setCell b0 (p:=⟨gT,n*6+(4+j),none⟩) (Iz (mq r.2));have Df:aE (((w3.setCell ⟨gT,n*6+j,none⟩ (.bool true)).setCell ⟨gT,n*6+(2+j),none⟩ (Iz r.1)).setCell ⟨gT,n*6+(4+j),none⟩ (Iz (mq r.2))) gI 3 #[Iz 1,Iz 2]:=by
       refine(HD.below B3).block ?_;rw[av _ _ _ _ ay,av _ _ _ _ ay,av _ _ _ _ ay]
      obtain⟨Fs,b3⟩:=Zn (fun j=>j=g8:Nat->Prop);have m8:Fs g8:=by rw[b3]
      have d0:∀u,aI Fs w3.drew u->Cz u g8 0 (Iz r.1):=fun u hu=>(hu.cell m8).trans (D8.cell 0);have d1:∀u,aI Fs w3.drew u->Cz u g8 1 (Iz (mq r.2)):=fun u hu=>(hu.cell m8).trans (D8.cell 1);have hs:∀(u:World) (i:Nat) (v:Value),aI Fs u (u.setCell ⟨gT,i,none⟩ v):=fun u i v k hk=>av _ _ _ _ (cf k (by rw[b3] at hk;exact hk));obtain⟨d6,d7,d8,b4⟩:=mh o3 Bf Df hs;clear q0 q1 q2 bU bV o1 o2 o3 Bf Df hs cf ay O B3 D8 b2 a2 ht eT dS m8 b3;go_wp2_with fail;rw[<-a8,<-bR];clear a8 bR;refine bx (R:=aI Fs) 99999 [16,20,24] [0,1,2,3,4,5,6,7,8,9,10,11,12,13,14,15,17,18,21,22,16,19,20,23,24] (by kernel_rfl) (aI.tr _) (aI.J _) (by kernel_rfl) (fun _ _ _ _ _ h=>h) ?_;refine Yt ?_;clear d0 d1;refine Ym fun K hK=>?_;refine Yo hK (b4 _ _ _) ?_;refine Yt ?_;refine Ym fun K hK=>?_;refine Yo hK (b4 _ _ _) ?_;refine Yt ?_;refine Ym fun K hK=>?_;refine Yo hK (b4 _ _ _) ?_;refine aT ?_;go_wp2_with fail;go_roundw
      case rel=>
       have e1:n*6+2+j=n*6+(2+j):=bg ..;have e2:n*6+4+j=n*6+(4+j):=bg ..;rw[e1,e2];exact⟨j+1,cA ax.h,by go_num,ao ⟨aX d6 fun _ _=>rfl,d7.drew,d8.drew⟩⟩
      case measure=>have:=ax.h;simp[intOf];omega
    ·obtain rfl:j=2:=ae
     obtain⟨a0,HB⟩:=dF I hB;clear I hB a6 HJ hj a7;go_wp2_with fail;go_roundw
     case rel=>exact⟨n+1,cA bH.h,by go_num,ao ⟨by rw[<-Uw];exact a0,HB⟩⟩
     case measure=>have:=bH.h;simp[intOf];omega
  ·obtain rfl:n=N:=ae
   rw[Ux] at I;obtain⟨a0,HB⟩:=dF I hB;clear I hB HM hn bt;go_wp2_with fail;go_ret;exact⟨_,n,rfl,a0,HB⟩
def Uy (o:Option Qt):Array Value:=match o with|some q=>q.arr|none=> #[Iz 0,Iz 0,Iz 0,Iz 0,Iz 0,Iz 0]
theorem PH (o:Option Qt):∃D a1 I J O a5:Int,Uy o=#[Iz D,Iz a1,Iz I,Iz J,Iz O,Iz a5]:=by
 cases o with
 |none=>exact⟨_,_,_,_,_,_,rfl⟩
 |some q=>exact⟨_,_,_,_,_,_,rfl⟩
theorem rI (A:Option Addr) (n c:Nat) (l:List Qt) (k:Nat) (s:Int) (w:World) (hn:l.length=n) (D:n<=1000) (hA:Cells w A (uD l)) (I:k<2) (hs:s=(k:Int)+1):
  Wz 100 #[.slice A n c,Iz s] w fun e w'=>e= .returned (.tuple #[.agg (Uy (nF k l)), .bool (nF k l).isSome])/\Bz w w':=by
 cases l with
 |nil=>
  subst hn;exact PB A c s w
 |cons q l=>exact PC A n c q l k s w (by rw[<-hn];rfl) D hA I hs
theorem uF (P:PD) (tp:kJ) (x k:Nat):(iq P tp x k).length<=1+2*P.n:=aF (qi _ _) (Cx P.n tp x k)
theorem qj.WD (h:qj w s P S C):GC (lU S):=by
 intro x k p q hx;unfold lU at hx
 cases D:S[x]? with
 |none=>rw[D] at hx;cases hx
 |some M=>
  rw[D] at hx;unfold yG at hx
  cases hs:M.side k with
  |nil=>simp only[hs] at hx;cases hx
  |cons r l=>
   simp only[hs] at hx;injection hx with hx;injection hx with h1 h2;have hr:r∈M.side k:=by rw[hs];simp
   have I:=h.pd.right.ag (h.pr x k M r D hr);have O:x<P.count:=by rw[<-h.sn];exact(az.1 D).1
   obtain⟨b,M',_,J,h5⟩:=h.book O;rw[D] at J;injection J with J;subst J;obtain⟨h6,h7,h8⟩:=h5.ok.lvl hr;have h9:=Gh fun e he=>⟨(h8 e he).1,(h8 e he).2.1⟩;subst h1 h2;exact⟨⟨I.1,I.2.1⟩,ae,ae⟩
def Jw (k:Nat) (a:Option (Int×Int)) (o:Option Qt):Option (Int×Int×Option Qt):=match a,o with
 |some r,some q=>if bz k q.ag r.1=true then some (q.ag,q.aw,some q) else some (r.1,r.2,none)
 |some r,none=>some (r.1,r.2,none)
 |none,some q=>some (q.ag,q.aw,some q)
 |none,none=>none
theorem CG (P:PD) (S:Sm) (x k:Nat):jZ P S x k=Jw k (lU S x k) (nF k (iq P (lU S) x k)):=rfl
def CH (o:Option (Int×Int×Option Qt)):Array Value:=match o with
 |none=> #[.agg #[Iz 0,Iz 0,Iz 0,Iz 0,Iz 0,Iz 0], .bool false, .bool false]
 |some (p,q,none)=> #[.agg #[Iz p,Iz q,Iz 0,Iz 0,Iz 0,Iz 0], .bool false, .bool true]
 |some (_,_,some q)=> #[q.val, .bool true, .bool true]
theorem PI (s:Nat) (P:PD) (S:Sm) (G R:Nat->Prop) (x k:Nat) (sd:Int) (w:World) (h:dR w G R s P S) (hx:x<P.count) (hk:k<2) (bE:sd=(k:Int)+1):
  Calls Tryz.prog 102 #[.pointer (some ⟨s,0,none⟩), .int .i64 (x:Int), .int .i64 sd] w fun e w'=>e= .returned (.tuple (CH (jZ P S x k)))/\Below w.heap.size w w':=by
 have er:=h;obtain⟨C,hS,f2,f3,hR⟩:=h;have et:=hS.pd.right.cnt;obtain⟨b,M,hb,hM,hB⟩:=hS.book hx;obtain⟨gA,hA,hp⟩:=mB hS.ob hb;obtain⟨L,eL⟩:=Zn (iq P (lU S) x k);have eu:L.length<=1000:=by rw[eL];have:=uF P (lU S) x k;omega
 obtain⟨o,eo⟩:=Zn (nF k L);obtain⟨a0,a1,a2,a3,a4,a5,ea⟩:=PH o;obtain⟨zb,ew⟩:=Zn o.isSome;have b8:=hS.WD;have e5:gA<w.heap.size:=(hS.ob.lt gA (by rw[hA];rfl)).2;obtain⟨wA,cF⟩:=Zn (w.alloc (.cells #[.int .i64 0, .int .i64 0, .int .i64 0, .int .i64 0, .int .i64 0, .int .i64 0] 178));obtain⟨g6,cH⟩:=Zn w.heap.size;have D6:aE wA g6 178 #[.int .i64 0, .int .i64 0, .int .i64 0, .int .i64 0, .int .i64 0, .int .i64 0]:=by rw[cF,cH];exact heap_alloc_new _ _
 have BA:Below w.heap.size w wA:=by rw[cF];exact au (aa _ _) _
 have b9:qj wA s P S C:=hS.same (fun k hk=>BA.block k (hS.Pt k hk)) (fun y k hk=>BA.block k (hS.NG y k hk)) (fun k hk=>BA.block k (hS.Ps k hk)) BA.size;obtain⟨S0,ef⟩:=Zn wA.heap.size;have e6:s<S0:=by rw[ef];exact b9.D.lt
 obtain⟨k0,k1,k2,k3,k4,k5,k6,k7,k8,k9,ey,e7,e9⟩:=b9.gX;have st:∀{u:World} {i:Nat} {v:Value},Below S0 wA.drew u->wA.cell? ⟨s,i,none⟩=some v->u.cell? ⟨s,i,none⟩=some v:=fun {u i v} hu hv=>Yb hu e6 hv;have d0:=fun u (hu:Below S0 wA.drew u)=>st hu k0;have d1:=fun u (hu:Below S0 wA.drew u)=>st hu k1;have d2:=fun u (hu:Below S0 wA.drew u)=>st hu k2;have d3:=fun u (hu:Below S0 wA.drew u)=>st hu k3;have d4:=fun u (hu:Below S0 wA.drew u)=>st hu k4;have d5:=fun u (hu:Below S0 wA.drew u)=>st hu k5;have d6:=fun u (hu:Below S0 wA.drew u)=>st hu k6;have d7:=fun u (hu:Below S0 wA.drew u)=>st hu k7;have d8:=fun u (hu:Below S0 wA.drew u)=>st hu k8;have d9:=fun u (hu:Below S0 wA.drew u)=>st hu k9;have eA:=fun u (hu:Below S0 wA.drew u)=>st hu ey;have eB:=ao (er.below BA);have eg:=ao b9.pd;have cQ:=ao b9;have HB:=ao (hB.below BA);have HM:=ao hM;have fa:=ao hb;have HA:=ao hA;have EL:=ao eL;have EO:=ao eo;have EA:=ao ea;have EZ:=ao ew;have ei:=ao b8;have bt:=ao bE;have HX:=ao hx;have bf:=ao D6;have eC:=ao BA;have ax:=ao ef;have eD:=ao cH;have cS:=ao eu;have f4:=ao et;clear er hS hB hM hb hA eL eo ea ew b8 bE hx D6 BA b9 ef hp e5 eu st k0 k1 k2 k3 k4 k5 k6 k7 k8 k9 ey e7 e9 et
 go_enter Tryz.func102,Tryz.ntmps102
 go_upto_region 1 with(fail)
 rw[<-cF,<-cH];clear cF cH
 go_cut [9,10] (fun v v' wx=>v'= .bool zb/\∃g9,v= .pointer (some ⟨g9,0,none⟩)/\Hid (aE wx g9 178 #[.int .i64 a0, .int .i64 a1, .int .i64 a2, .int .i64 a3, .int .i64 a4, .int .i64 a5]/\Below S0 wA wx/\S0<=g9))
 case first=>
  refine Zy S0 17 ?_;refine Zr [0,1,2,3,4,6,7,9] 9 ?_;refine Yr ?_;clear d0 d1 d2 d3 d4 d5 d6 d7 d8 d9 eA;refine Zf [5,14] 8 ?_;refine Zo (fun K hK=>?_) ?_
  ·go_simp
   refine(vr s P S G R _ (eB.h.below (aS (aa _ _):Below wA.heap.size wA wA.drew))).mono ?_;rintro e w1⟨A1,c1,rfl,J,b1⟩;have I:Below S0 wA.drew w1:=b1.mono (bu ax.h);have BN:Below S0 wA w1:=(aa _ _).drew.trans I;have eE:=ao (dP.O J);have bH:=ao BN;refine Yo hK (I) ?_;clear b1 I BN J;refine Zf [8,14] 7 ?_;refine Zo (fun K hK=>?_) ?_
   ·go_simp
    refine(pV P C.ma C.mc C.sa C.sc A1 c1 (lU S) x k sd _ (eg.h.below (show Below wA.heap.size wA w1 by rw[<-ax.h];exact bH.h)) eE.h HX.h hk bt.h ei.h).mono ?_;rintro e w2⟨A2,c2,rfl,J,b1⟩;rw[<-EL.h] at J⊢;have I:Below S0 w1 w2:=b1.mono (by have:=bH.h.size;have:=ax.h;omega);have BN:Below S0 wA w2:=bH.h.trans I;have eF:=ao (dP.O J);have b7:=ao BN;refine Yo hK (I) ?_;clear b1 I BN J;refine Zf [10,14] 6 ?_;refine Zo (fun K hK=>?_) ?_
    ·go_simp
     refine(rI A2 _ c2 L k sd _ rfl cS.h eF.h hk bt.h).mono ?_;rintro e w3⟨rfl,b1⟩;rw[<-EO.h,EA.h,<-EZ.h];have I:Below S0 w2 w3:=b1.mono (by have:=b7.h.size;have:=ax.h;omega);have BN:Below S0 wA w3:=b7.h.trans I;have dS:=ao BN;refine Yo hK (I) ?_;clear b1 I BN;refine Zr [11,12,13] 3 ?_;refine Yr ?_;refine Zf [14] 2 ?_;refine Zo (fun K hK=>?_) ?_
     ·go_simp
      have a8:S0<=w3.heap.size:=by have:=dS.h.size;have:=ax.h;omega
      refine Yo hK (iV (aa _ _) a8 _) ?_;have ff:Hid (∀o o':Obj,Below S0 (w3.alloc o) (w3.alloc o')):=ao fun o o'=>qD a8 o o';have eG:Hid (S0<=w3.heap.size):=ao a8;clear a8;refine Zf [15] 1 ?_;refine Zo (fun K hK=>?_) ?_
      ·go_simp
       refine Yo hK (ff.h _ _) ?_;refine Zr [16] 0 ?_;refine Yr ?_;refine Ze ?_;go_wp2_with fail;go_meet;exact⟨by first|rfl|skip,_,rfl,ao ⟨aE.new _ _ _,dS.h.alloc (by exact eG.h) _,eG.h⟩⟩
      exact aQ
     exact aQ
    refine Zo (fun K hK=>?_) ?_
    ·go_simp
     have a8:S0<=w2.heap.size:=by have:=b7.h.size;have:=ax.h;omega
     refine Yo hK (iV (aa _ _) a8 _) ?_;obtain⟨w5,a6⟩:=Zn (w2.alloc (.cells #[.int .i64 0, .int .i64 0, .int .i64 0, .int .i64 0, .int .i64 0, .int .i64 0] 178));obtain⟨cd,ba⟩:=Zn w2.heap.size;have DN:aE w5 cd 178 #[.int .i64 0, .int .i64 0, .int .i64 0, .int .i64 0, .int .i64 0, .int .i64 0]:=by rw[a6,ba];exact aE.new w2 _ _
     have BN:Below S0 wA w5:=by rw[a6];exact b7.h.alloc a8 _
     have bh:Hid (S0<=cd):=ao (by rw[ba];exact a8);have BL:Below w2.heap.size w2 w5:=by rw[a6];exact au (aa _ _) _
     have fi:=ao (eF.h.below BL);rw[<-a6,<-ba];have fk:=ao DN;have dT:=ao BN;clear a6 ba DN BN BL a8;refine Zf [10] 5 ?_;refine Zo (fun K hK=>?_) ?_
     ·go_simp
      refine(rI A2 _ c2 L k sd _ rfl cS.h fi.h hk bt.h).mono ?_;rintro e w6⟨rfl,b1⟩;rw[<-EO.h,EA.h,<-EZ.h];have I:Below S0 w5 w6:=b1.mono (by have:=dT.h.size;have:=ax.h;omega);have BN:Below S0 wA w6:=dT.h.trans I;have bf:=ao (fk.h.below b1);have eI:=ao BN;refine Yo hK (I) ?_;clear b1 I BN;have z0:=bf.h.cell 0;have z1:=bf.h.cell 1;have z2:=bf.h.cell 2;have z3:=bf.h.cell 3;have z4:=bf.h.cell 4;have z5:=bf.h.cell 5;obtain⟨y0,y1,y2,y3,y4,y5⟩:=bf.h.oD;have hw:=bO (us:=[.int .i64 a0, .int .i64 a1, .int .i64 a2, .int .i64 a3, .int .i64 a4, .int .i64 a5]) bf.h rfl;have hb:=bA (us:=[.int .i64 a0, .int .i64 a1, .int .i64 a2, .int .i64 a3, .int .i64 a4, .int .i64 a5]) (i:=0) bh.h eI.h;have I:=bA (us:=[.int .i64 a0, .int .i64 a1, .int .i64 a2, .int .i64 a3, .int .i64 a4, .int .i64 a5]) (i:=0) bh.h (aa S0 w6);simp only[fW] at hw hb I;have HW:=ao hw;have HB:=ao hb;have cf:=ao I;clear hw hb I;refine Zr [11,12,13] 2 ?_;refine Yr ?_;refine Zf [15] 1 ?_;refine Zo (fun K hK=>?_) ?_
      ·go_simp
       refine Yo hK (cf.h) ?_;refine Zr [16] 0 ?_;refine Yr ?_;refine Ze ?_;clear z0 z1 z2 z3 z4 z5 y0 y1 y2 y3 y4 y5;go_wp2_with fail;go_meet;exact⟨rfl,cd,rfl,ao ⟨HW.h,HB.h,bh.h⟩⟩
      exact aQ
     exact aQ
    exact aQ
   refine Zo (fun K hK=>?_) ?_
   ·go_simp
    have a8:S0<=w1.heap.size:=by have:=bH.h.size;have:=ax.h;omega
    refine Yo hK (iV (aa _ _) a8 _) ?_;obtain⟨w7,a6⟩:=Zn (w1.alloc (.cells #[.int .i64 0, .int .i64 0, .int .i64 0, .int .i64 0, .int .i64 0, .int .i64 0] 178));obtain⟨ck,ba⟩:=Zn w1.heap.size;have DN:aE w7 ck 178 #[.int .i64 0, .int .i64 0, .int .i64 0, .int .i64 0, .int .i64 0, .int .i64 0]:=by rw[a6,ba];exact aE.new w1 _ _
    have BN:Below S0 wA w7:=by rw[a6];exact bH.h.alloc a8 _
    have bh:Hid (S0<=ck):=ao (by rw[ba];exact a8);have BL:Below w1.heap.size w1 w7:=by rw[a6];exact au (aa _ _) _
    have fq:=ao (eE.h.below BL);rw[<-a6,<-ba];have fx:=ao DN;have cl:=ao BN;clear a6 ba DN BN BL a8;refine Zf [8] 6 ?_;refine Zo (fun K hK=>?_) ?_
    ·go_simp
     refine(pV P C.ma C.mc C.sa C.sc A1 c1 (lU S) x k sd _ (eg.h.below (show Below wA.heap.size wA w7 by rw[<-ax.h];exact cl.h)) fq.h HX.h hk bt.h ei.h).mono ?_;rintro e w8⟨A2,c2,rfl,J,b1⟩;rw[<-EL.h] at J⊢;have I:Below S0 w7 w8:=b1.mono (by have:=cl.h.size;have:=ax.h;omega);have BN:Below S0 wA w8:=cl.h.trans I;have fz:=ao (dP.O J);have fH:=ao (fx.h.below b1);have eb:=ao BN;refine Yo hK (I) ?_;clear b1 I BN J;refine Zf [10] 5 ?_;refine Zo (fun K hK=>?_) ?_
     ·go_simp
      refine(rI A2 _ c2 L k sd _ rfl cS.h fz.h hk bt.h).mono ?_;rintro e w9⟨rfl,b1⟩;rw[<-EO.h,EA.h,<-EZ.h];have I:Below S0 w8 w9:=b1.mono (by have:=eb.h.size;have:=ax.h;omega);have BN:Below S0 wA w9:=eb.h.trans I;have bQ:=ao (fH.h.below b1);have eJ:=ao BN;refine Yo hK (I) ?_;clear b1 I BN;have z0:=bQ.h.cell 0;have z1:=bQ.h.cell 1;have z2:=bQ.h.cell 2;have z3:=bQ.h.cell 3;have z4:=bQ.h.cell 4;have z5:=bQ.h.cell 5;obtain⟨y0,y1,y2,y3,y4,y5⟩:=bQ.h.oD;have hw:=bO (us:=[.int .i64 a0, .int .i64 a1, .int .i64 a2, .int .i64 a3, .int .i64 a4, .int .i64 a5]) bQ.h rfl;have hb:=bA (us:=[.int .i64 a0, .int .i64 a1, .int .i64 a2, .int .i64 a3, .int .i64 a4, .int .i64 a5]) (i:=0) bh.h eJ.h;have I:=bA (us:=[.int .i64 a0, .int .i64 a1, .int .i64 a2, .int .i64 a3, .int .i64 a4, .int .i64 a5]) (i:=0) bh.h (aa S0 w9);simp only[fW] at hw hb I;have HW:=ao hw;have HB:=ao hb;have cf:=ao I;clear hw hb I;refine Zr [11,12,13] 2 ?_;refine Yr ?_;refine Zf [15] 1 ?_;refine Zo (fun K hK=>?_) ?_
      ·go_simp
       refine Yo hK (cf.h) ?_;refine Zr [16] 0 ?_;refine Yr ?_;refine Ze ?_;clear z0 z1 z2 z3 z4 z5 y0 y1 y2 y3 y4 y5;go_wp2_with fail;go_meet;exact⟨rfl,ck,rfl,ao ⟨HW.h,HB.h,bh.h⟩⟩
      exact aQ
     exact aQ
    exact aQ
   exact aQ
  refine Zo (fun K hK=>?_) ?_
  ·go_simp
   refine Yo hK ((by rw[ax.h];exact fo wA _)) ?_;obtain⟨cT,a6⟩:=Zn ((wA.alloc (.cells #[.int .i64 0, .int .i64 0, .int .i64 0, .int .i64 0, .int .i64 0, .int .i64 0] 178)).drew);obtain⟨cm,ba⟩:=Zn wA.heap.size;have DN:aE cT cm 178 #[.int .i64 0, .int .i64 0, .int .i64 0, .int .i64 0, .int .i64 0, .int .i64 0]:=by rw[a6,ba];exact(aE.new wA _ _).drew
   have BN:Below S0 wA cT:=by rw[a6,ax.h];exact aS (au (aa _ _) _)
   have bh:Hid (S0<=cm):=ao (by rw[ba,ax.h];exact af _);rw[<-a6,<-ba];have eK:=ao DN;have b4:=ao BN;clear a6 ba DN BN;refine Zf [5] 7 ?_;refine Zo (fun K hK=>?_) ?_
   ·go_simp
    refine(vr s P S G R _ (eB.h.below (show Below wA.heap.size wA cT by rw[<-ax.h];exact b4.h))).mono ?_;rintro e cX⟨A1,c1,rfl,J,b1⟩;have I:Below S0 cT cX:=b1.mono (by have:=b4.h.size;have:=ax.h;omega);have BN:Below S0 wA cX:=b4.h.trans I;have eM:=ao (dP.O J);have eO:=ao (eK.h.below b1);have b5:=ao BN;refine Yo hK (I) ?_;clear b1 I BN J;refine Zf [8] 6 ?_;refine Zo (fun K hK=>?_) ?_
    ·go_simp
     refine(pV P C.ma C.mc C.sa C.sc A1 c1 (lU S) x k sd _ (eg.h.below (show Below wA.heap.size wA cX by rw[<-ax.h];exact b5.h)) eM.h HX.h hk bt.h ei.h).mono ?_;rintro e ej⟨A2,c2,rfl,J,b1⟩;rw[<-EL.h] at J⊢;have I:Below S0 cX ej:=b1.mono (by have:=b5.h.size;have:=ax.h;omega);have BN:Below S0 wA ej:=b5.h.trans I;have eP:=ao (dP.O J);have eQ:=ao (eO.h.below b1);have cn:=ao BN;refine Yo hK (I) ?_;clear b1 I BN J;refine Zf [10] 5 ?_;refine Zo (fun K hK=>?_) ?_
     ·go_simp
      refine(rI A2 _ c2 L k sd _ rfl cS.h eP.h hk bt.h).mono ?_;rintro e ek⟨rfl,b1⟩;rw[<-EO.h,EA.h,<-EZ.h];have I:Below S0 ej ek:=b1.mono (by have:=cn.h.size;have:=ax.h;omega);have BN:Below S0 wA ek:=cn.h.trans I;have bc:=ao (eQ.h.below b1);have el:=ao BN;refine Yo hK (I) ?_;clear b1 I BN;have z0:=bc.h.cell 0;have z1:=bc.h.cell 1;have z2:=bc.h.cell 2;have z3:=bc.h.cell 3;have z4:=bc.h.cell 4;have z5:=bc.h.cell 5;obtain⟨y0,y1,y2,y3,y4,y5⟩:=bc.h.oD;have hw:=bO (us:=[.int .i64 a0, .int .i64 a1, .int .i64 a2, .int .i64 a3, .int .i64 a4, .int .i64 a5]) bc.h rfl;have hb:=bA (us:=[.int .i64 a0, .int .i64 a1, .int .i64 a2, .int .i64 a3, .int .i64 a4, .int .i64 a5]) (i:=0) bh.h el.h;have I:=bA (us:=[.int .i64 a0, .int .i64 a1, .int .i64 a2, .int .i64 a3, .int .i64 a4, .int .i64 a5]) (i:=0) bh.h (aa S0 ek);simp only[fW] at hw hb I;have HW:=ao hw;have HB:=ao hb;have cf:=ao I;clear hw hb I;refine Zr [11,12,13] 2 ?_;refine Yr ?_;refine Zf [15] 1 ?_;refine Zo (fun K hK=>?_) ?_
      ·go_simp
       refine Yo hK (cf.h) ?_;refine Zr [16] 0 ?_;refine Yr ?_;refine Ze ?_;clear z0 z1 z2 z3 z4 z5 y0 y1 y2 y3 y4 y5;go_wp2_with fail;go_meet;exact⟨rfl,cm,rfl,ao ⟨HW.h,HB.h,bh.h⟩⟩
      exact aQ
     exact aQ
    exact aQ
   exact aQ
  exact aQ
 obtain⟨rfl,g9,rfl,HC⟩:=hcut;clear d0 d1 d2 d3 d4 d5 d6 d7 d8 d9 eA;obtain⟨E9,EB,fT⟩:=HC.h;have bR:Below wA.heap.size wA wc:=by rw[<-ax.h];exact EB
 have c0:qj wc s P S C:=cQ.h.same (fun k hk=>bR.block k (cQ.h.Pt k hk)) (fun y k hk=>bR.block k (cQ.h.NG y k hk)) (fun k hk=>bR.block k (cQ.h.Ps k hk)) bR.size;have dc:wc.cell? ⟨s,11,none⟩=some (.slice C.A C.bs.length C.c):=c0.D.cell 11;obtain⟨f5,eR,eS⟩:=mB c0.ob fa.h;rw[eR] at dc;obtain⟨N,eN⟩:=Zn C.bs.length;rw[<-eN] at dc;have f6:(x:Int)<N:=by rw[eN,c0.bn];have:=HX.h;omega
 have eT:=ao (HB.h.below bR);have eU:=ao E9;have eV:=ao bR;have f7:=ao eN;have ed:=ao (bf.h.below bR);have eW:g9≠g6:=by have h1:=bf.h.lt;have h2:=ax.h;omega
 have f8:=ao eW;clear E9 EB bR fT c0 eN HC eR eW;have eY:jZ P S x k=Jw k (yG M k) o:=by rw[CG,Sr HM.h,<-EL.h,<-EO.h]
 have dp:=ao eY;clear eY;go_wp2_with fail
 cases bE:M.side k with
 |nil=>
  refine(uA b M (C.Fs x) k sd wc eT.h hk bt.h bE).mono ?_;rintro e w2⟨rfl,b2⟩;have ht:=Fm bE;obtain⟨w3,bU⟩:=Zn (w2.alloc (.cells #[.int .i64 0, .int .i64 0, .int .i64 0] 75));have B3:Below wc.heap.size wc w3:=by rw[bU];exact au b2 _
  have a7:=eU.h.below B3;have ay:=ed.h.below B3;have p0:=a7.cell 0;have p1:=a7.cell 1;have p2:=a7.cell 2;have p3:=a7.cell 3;have p4:=a7.cell 4;have p5:=a7.cell 5;have z0:=ay.cell 0;have z1:=ay.cell 1;have z2:=ay.cell 2;have z3:=ay.cell 3;have z4:=ay.cell 4;have z5:=ay.cell 5;obtain⟨y0,y1,y2,y3,y4,y5⟩:=ay.oD;have bV:=ao ay;have HT:=ao ht;have b0:=ao (dW (dW eC.h eV.h) B3);have b3:Hid (w.heap.size<=g6):=ao (by rw[eD.h];exact af _);clear a7 ay B3 b2 ht bE dc eS
  go_upto_region 3 with(fail)
  rw[<-bU];clear bU;have hw:=bO (us:=[.int .i64 a0, .int .i64 a1, .int .i64 a2, .int .i64 a3, .int .i64 a4, .int .i64 a5]) bV.h rfl;have hb:=bA (us:=[.int .i64 a0, .int .i64 a1, .int .i64 a2, .int .i64 a3, .int .i64 a4, .int .i64 a5]) (i:=0) b3.h b0.h;simp only[fW] at hw hb;have HW:=ao hw;have b6:=ao hb;clear hw hb;go_wp2_with fail
  (try simp only[Exit.inBlock,Exit.then])
  obtain⟨wf,bp⟩:=Zn ((((((w3.setCell ⟨g6,0,none⟩ (.int .i64 a0)).setCell ⟨g6,0+1,none⟩ (.int .i64 a1)).setCell ⟨g6,0+1+1,none⟩ (.int .i64 a2)).setCell ⟨g6,0+1+1+1,none⟩ (.int .i64 a3)).setCell ⟨g6,0+1+1+1+1,none⟩ (.int .i64 a4)).setCell ⟨g6,0+1+1+1+1+1,none⟩ (.int .i64 a5));have hw:=HW.h;have hb:=b6.h;rw[<-bp] at hw hb;refine iv bp ?_;have r0:=hw.cell 0;have r1:=hw.cell 1;have r2:=hw.cell 2;have r3:=hw.cell 3;have r4:=hw.cell 4;have r5:=hw.cell 5;clear z0 z1 z2 z3 z4 z5 y0 y1 y2 y3 y4 y5 p0 p1 p2 p3 p4 p5;have bb:CH (jZ P S x k)=#[.agg #[.int .i64 a0, .int .i64 a1, .int .i64 a2, .int .i64 a3, .int .i64 a4, .int .i64 a5], .bool zb, .bool zb]:=by
   rw[dp.h,HT.h,<-EA.h,EZ.h]
   cases o<;>rfl
  rw[bb];refine bodyPost_ret (v:= .tuple #[.agg #[.int .i64 a0, .int .i64 a1, .int .i64 a2, .int .i64 a3, .int .i64 a4, .int .i64 a5], .bool zb, .bool zb]) (by simp[results,Tryz.results102,go_sem,r0,r1,r2,r3,r4,r5];try rfl) rfl ?_;exact⟨rfl,hb⟩
 |cons r lr=>
  refine(yI b M (C.Fs x) k sd r lr wc eT.h hk bt.h bE).mono ?_;rintro e w2⟨rfl,b2⟩;have ht:=Fo bE;obtain⟨q2,eZ⟩:=Zn (mq r.2);rw[<-eZ] at ht⊢;obtain⟨w3,bU⟩:=Zn (w2.alloc (.cells #[.int .i64 r.1, .int .i64 q2, .int .i64 (r.2.length:Int)] 75));obtain⟨f0,ct⟩:=Zn w2.heap.size;have ep:aE w3 f0 75 #[.int .i64 r.1, .int .i64 q2, .int .i64 (r.2.length:Int)]:=by rw[bU,ct];exact heap_alloc_new _ _
  have B3:Below wc.heap.size wc w3:=by rw[bU];exact au b2 _
  have a7:=eU.h.below B3;have ay:=ed.h.below B3;have p0:=a7.cell 0;have p1:=a7.cell 1;have p2:=a7.cell 2;have p3:=a7.cell 3;have p4:=a7.cell 4;have p5:=a7.cell 5;have z0:=ay.cell 0;have z1:=ay.cell 1;have z2:=ay.cell 2;have z3:=ay.cell 3;have z4:=ay.cell 4;have z5:=ay.cell 5;obtain⟨y0,y1,y2,y3,y4,y5⟩:=ay.oD;have l0:=ep.cell 0;have l1:=ep.cell 1;have bV:=ao ay;have HT:=ao ht;have b0:=ao (dW (dW eC.h eV.h) B3);have b3:Hid (w.heap.size<=g6):=ao (by rw[eD.h];exact af _);clear a7 ay B3 b2 ht bE dc eS ep eZ
  go_upto_region 3 with(fail)
  rw[<-bU,<-ct];clear bU ct
  cases o with
  |none=>
   obtain rfl:zb=false:=EZ.h;have bb:CH (jZ P S x k)=#[.agg #[.int .i64 r.1, .int .i64 q2, .int .i64 0, .int .i64 0, .int .i64 0, .int .i64 0], .bool false, .bool true]:=by rw[dp.h,HT.h];rfl
   have hw:=bO (us:=[.int .i64 r.1, .int .i64 q2, .int .i64 0, .int .i64 0, .int .i64 0, .int .i64 0]) bV.h rfl;have hb:=bA (us:=[.int .i64 r.1, .int .i64 q2, .int .i64 0, .int .i64 0, .int .i64 0, .int .i64 0]) (i:=0) b3.h b0.h;simp only[fW] at hw hb;have HW:=ao hw;have b6:=ao hb;clear hw hb;go_wp2_with fail
   (try simp only[Exit.inBlock,Exit.then])
   obtain⟨wf,bp⟩:=Zn ((((((w3.setCell ⟨g6,0,none⟩ (.int .i64 r.1)).setCell ⟨g6,0+1,none⟩ (.int .i64 q2)).setCell ⟨g6,0+1+1,none⟩ (.int .i64 0)).setCell ⟨g6,0+1+1+1,none⟩ (.int .i64 0)).setCell ⟨g6,0+1+1+1+1,none⟩ (.int .i64 0)).setCell ⟨g6,0+1+1+1+1+1,none⟩ (.int .i64 0));have hw:=HW.h;have hb:=b6.h;rw[<-bp] at hw hb;refine iv bp ?_;have r0:=hw.cell 0;have r1:=hw.cell 1;have r2:=hw.cell 2;have r3:=hw.cell 3;have r4:=hw.cell 4;have r5:=hw.cell 5;clear z0 z1 z2 z3 z4 z5 y0 y1 y2 y3 y4 y5 p0 p1 p2 p3 p4 p5;rw[bb];refine bodyPost_ret (v:= .tuple #[.agg #[.int .i64 r.1, .int .i64 q2, .int .i64 0, .int .i64 0, .int .i64 0, .int .i64 0], .bool false, .bool true]) (by simp[results,Tryz.results102,go_sem,r0,r1,r2,r3,r4,r5];try rfl) rfl ?_;exact⟨rfl,hb⟩
  |some q=>
   obtain rfl:zb=true:=EZ.h;have ha:q.arr=#[.int .i64 a0, .int .i64 a1, .int .i64 a2, .int .i64 a3, .int .i64 a4, .int .i64 a5]:=EA.h;have e0:q.ag=a0:=by
    have h1:=congrArg (fun a=>a[0]?) ha;simp[Qt.arr] at h1;exact h1
   have e3:=ao e0;have f1:=ao ha;clear ha e0;go_wp2_with fail;refine(pK sd a0 r.1 k bt.h w3).mono ?_;rintro e u⟨rfl,rfl⟩;obtain⟨z,ez⟩:=Zn (bz k a0 r.1);rw[<-ez];have e4:=ao ez;clear ez
   cases z
   ·have bb:CH (jZ P S x k)=#[.agg #[.int .i64 r.1, .int .i64 q2, .int .i64 0, .int .i64 0, .int .i64 0, .int .i64 0], .bool false, .bool true]:=by
     rw[dp.h,HT.h];unfold Jw;simp only;rw[e3.h,<-e4.h,if_neg (by simp)];rfl
    have cv:=ao bb;clear bb;have hw:=bO (us:=[.int .i64 r.1, .int .i64 q2, .int .i64 0, .int .i64 0, .int .i64 0, .int .i64 0]) bV.h rfl;have hb:=bA (us:=[.int .i64 r.1, .int .i64 q2, .int .i64 0, .int .i64 0, .int .i64 0, .int .i64 0]) (i:=0) b3.h b0.h;simp only[fW] at hw hb;have HW:=ao hw;have b6:=ao hb;clear hw hb;go_wp2_with fail
    (try simp only[Exit.inBlock,Exit.then])
    obtain⟨wf,bp⟩:=Zn ((((((w3.setCell ⟨g6,0,none⟩ (.int .i64 r.1)).setCell ⟨g6,0+1,none⟩ (.int .i64 q2)).setCell ⟨g6,0+1+1,none⟩ (.int .i64 0)).setCell ⟨g6,0+1+1+1,none⟩ (.int .i64 0)).setCell ⟨g6,0+1+1+1+1,none⟩ (.int .i64 0)).setCell ⟨g6,0+1+1+1+1+1,none⟩ (.int .i64 0));have hw:=HW.h;have hb:=b6.h;rw[<-bp] at hw hb;refine iv bp ?_;have r0:=hw.cell 0;have r1:=hw.cell 1;have r2:=hw.cell 2;have r3:=hw.cell 3;have r4:=hw.cell 4;have r5:=hw.cell 5;clear z0 z1 z2 z3 z4 z5 y0 y1 y2 y3 y4 y5 p0 p1 p2 p3 p4 p5;rw[cv.h];refine bodyPost_ret (v:= .tuple #[.agg #[.int .i64 r.1, .int .i64 q2, .int .i64 0, .int .i64 0, .int .i64 0, .int .i64 0], .bool false, .bool true]) (by simp[results,Tryz.results102,go_sem,r0,r1,r2,r3,r4,r5];try rfl) rfl ?_;exact⟨rfl,hb⟩
   ·have bb:CH (jZ P S x k)=#[.agg #[.int .i64 a0, .int .i64 a1, .int .i64 a2, .int .i64 a3, .int .i64 a4, .int .i64 a5], .bool true, .bool true]:=by
     rw[dp.h,HT.h];unfold Jw;simp only;rw[e3.h,<-e4.h,if_pos rfl,<-f1.h];rfl
    have cv:=ao bb;clear bb;have hw:=bO (us:=[.int .i64 a0, .int .i64 a1, .int .i64 a2, .int .i64 a3, .int .i64 a4, .int .i64 a5]) bV.h rfl;have hb:=bA (us:=[.int .i64 a0, .int .i64 a1, .int .i64 a2, .int .i64 a3, .int .i64 a4, .int .i64 a5]) (i:=0) b3.h b0.h;simp only[fW] at hw hb;have HW:=ao hw;have b6:=ao hb;clear hw hb;go_wp2_with fail
    (try simp only[Exit.inBlock,Exit.then])
    obtain⟨wf,bp⟩:=Zn ((((((w3.setCell ⟨g6,0,none⟩ (.int .i64 a0)).setCell ⟨g6,0+1,none⟩ (.int .i64 a1)).setCell ⟨g6,0+1+1,none⟩ (.int .i64 a2)).setCell ⟨g6,0+1+1+1,none⟩ (.int .i64 a3)).setCell ⟨g6,0+1+1+1+1,none⟩ (.int .i64 a4)).setCell ⟨g6,0+1+1+1+1+1,none⟩ (.int .i64 a5));have hw:=HW.h;have hb:=b6.h;rw[<-bp] at hw hb;refine iv bp ?_;have r0:=hw.cell 0;have r1:=hw.cell 1;have r2:=hw.cell 2;have r3:=hw.cell 3;have r4:=hw.cell 4;have r5:=hw.cell 5;clear z0 z1 z2 z3 z4 z5 y0 y1 y2 y3 y4 y5 p0 p1 p2 p3 p4 p5;rw[cv.h];refine bodyPost_ret (v:= .tuple #[.agg #[.int .i64 a0, .int .i64 a1, .int .i64 a2, .int .i64 a3, .int .i64 a4, .int .i64 a5], .bool true, .bool true]) (by simp[results,Tryz.results102,go_sem,r0,r1,r2,r3,r4,r5];try rfl) rfl ?_;exact⟨rfl,hb⟩
theorem Tryz.Ss:(Tryz.prog.info? 186).map (fun i=>(i.zero,i.size,i.bytes))=some (some (.agg #[Iz 0,Iz 0, .bool false, .slice none 0 0]),4,48):=by kernel_rfl
theorem WE:kA Tryz.prog 127 186 (.agg #[Iz 0,Iz 0, .bool false, .slice none 0 0]) 4 48:=
 ⟨Tryz.underlying127,let ⟨i,h,D,I,J⟩:=info_parts Tryz.Ss;⟨i,h,D,I,J⟩,rfl,ae,ae⟩
structure zJ where
 st:jz
 A:Option Addr
 c:Nat
variable {L:List zJ}
def zJ.v (y:zJ):Value:= .slice y.A y.st.U.length y.c
def zJ.cells (y:zJ):List Value:=[Iz y.st.ag,Iz y.st.aw, .bool y.st.imp,y.v]
theorem zJ.bG (y:zJ):y.cells.length=4:=rfl
def uI (L:List zJ):List Value:=L.flatMap zJ.cells
theorem Jy (L:List zJ) (y:zJ):uI (L++[y])=uI L++y.cells:=by simp[uI]
structure vu (B:Nat) (w:World) (Gm:Nat→Prop) (v:Value) (L:List zJ):Prop where
 row:w.ownsRow B 186 4 v L.length (uI L)
 off:∀g,v.ownBlock=some g→¬Gm g
 fl:∀y∈L,w.ownsRow B 240 6 y.v y.st.U.length (gW y.st.U)∧∀g,y.v.ownBlock=some g→¬Gm g
theorem vu.same {B:Nat} {w':World} {D:Nat->Prop} {v:Value} (h:vu B w Gm v L) (hs:∀g,g<w.heap.size->¬Gm g->w'.heap[g]?=w.heap[g]?) (hG:∀g,D g->Gm g\/w.heap.size<=g):vu B w' D v L:=
 ⟨aX h.row fun g hg=>hs g (h.row.lt g hg).2 (h.off g hg),fun g hg O=>by rcases hG g O with I|I;exact h.off g hg I;have:=(h.row.lt g hg).2;omega,
  fun y J=>⟨aX (h.fl y J).1 fun g hg=>hs g ((h.fl y J).1.lt g hg).2 ((h.fl y J).2 g hg),fun g hg O=>by rcases hG g O with I|I;exact(h.fl y J).2 g hg I;have:=((h.fl y J).1.lt g hg).2;omega⟩⟩
structure GD (P:PD) (x k:Nat) (st:jz):Prop where
 fy:P.fy x st.ag=0
 real:st.imp=false→∀f∈st.U,f.inst=x
 inst:∀f∈st.U,f.inst<P.count∧f.k<2
 len:st.U.length≤500
theorem uJ:∀{es:List dn} {cs:List Int} {f:fG},f∈dC x k p es cs->f.inst=x/\f.k=k/\f.ag=p
 |[],_,f,h=>by simp[dC] at h
 |_::_,[],f,h=>by simp[dC] at h
 |e::es,c::cs,f,h=>by
  unfold dC at h
  split at h
  ·rcases a9.1 h with rfl|h
   ·exact⟨rfl,rfl,rfl⟩
   ·exact uJ h
  ·exact uJ h
theorem qG {f:fG} (h:f∈(bM P S x k q).2):f.inst=x/\f.k=k:=by
 unfold bM at h
 split at h
 ·cases h
 ·split at h
  ·cases h
  ·have:=uJ h
   exact⟨this.1,this.2.1⟩
theorem uK (h:∀M,S[x]?=some M->EE M):(bM P S x k q).2.length<=250:=by
 unfold bM
 split
 ·exact aB _
 ·rename_i M D
  split
  ·exact aB _
  ·rename_i r l hs
   refine aF (sK _ _) ?_;exact((h M D).lvl (k:=k) (r:=r) (by rw[hs];simp)).2.1
structure VT (w w':World) (G R:Nat→Prop) (s:Nat) (P:PD) (res:Sm×List jz×Int) (v:Value) (L:List zJ) (G':Nat→Prop) (aw:Int) (x k:Nat):Prop where
 map:L.map (·.st)=res.2.1
 steps:vu w.heap.size w' G' v L
 st:dR w' G' R s P res.1
 lv:Lv G w w'
 sub:∀j,G' j→G j∨qO w w' j
 l0:0≤res.2.2
 qs:∀y∈L,1≤y.st.aw
 sm:(L.map (·.st.aw)).sum+res.2.2=aw
 ok:∀y∈L,GD P x k y.st
structure PJ (w wr:World) (G0 R0:Nat→Prop) (s:Nat) (P:PD) (S:Sm) (x k:Nat) (ag aw:Int) (v:Value) (q1:Int) (Gm:Nat→Prop) (S1:Sm) (f:Nat) (L:List zJ):Prop where
 st:dR wr Gm R0 s P S1
 steps:vu w.heap.size wr Gm v L
 lv:Lv G0 w wr
 sub:∀j,Gm j→G0 j∨qO w wr j
 q0:0≤q1
 qq:q1≤aw
 fu:q1.toNat≤f
 len:(L.length:Int)≤aw - q1
 qs:∀y∈L,1≤y.st.aw
 sm:(L.map (·.st.aw)).sum+q1=aw
 ok:∀y∈L,GD P x k y.st
 eq:dV P aw.toNat S x k ag aw=((dV P f S1 x k ag q1).1,L.map (·.st)++(dV P f S1 x k ag q1).2.1,(dV P f S1 x k ag q1).2.2)
theorem PK (h:q<=0):dV P f S x k ag q=(S,[],q):=by
 cases f with
 |zero=>rfl
 |succ f=>rw[dV,if_pos h]
theorem PL (h:jZ P S x (1 - k)=none):dV P f S x k ag q=(S,[],q):=by
 cases f with
 |zero=>rfl
 |succ f=>
  rw[dV]
  split
  ·rfl
  ·rw[h]
theorem St (h:jZ P S x (1 - k)=some (p,a,im)) (hg:lp k ag p=false):dV P f S x k ag q=(S,[],q):=by
 cases f with
 |zero=>rfl
 |succ f=>
  rw[dV]
  split
  ·rfl
  ·rw[h]
   simp only[hg,dm,if_false]
theorem Uz (hq:0<q) (h:jZ P S x (1 - k)=some (p,a,im)) (hg:lp k ag p=true):
  dV P (f+1) S x k ag q=((dV P f (dA P S x (1 - k) im (min q a)).1 x k ag (q - min q a)).1,⟨p,min q a,im.isSome,(dA P S x (1 - k) im (min q a)).2⟩::(dV P f (dA P S x (1 - k) im (min q a)).1 x k ag (q - min q a)).2.1,(dV P f (dA P S x (1 - k) im (min q a)).1 x k ag (q - min q a)).2.2):=by
 rw[dV,if_neg ae,h];simp only[hg,if_true]
theorem PJ.done {wr:World} {v:Value} (h:PJ w wr G0 R0 s P S x k ag aw v q1 Gm S1 f L)
  (he:dV P f S1 x k ag q1=(S1,[],q1)) (J:∀j,G0 j->G j) (hR:∀j,R0 j->R j):VT w wr G R s P (dV P aw.toNat S x k ag aw) v L Gm aw x k/\(dV P aw.toNat S x k ag aw).2.2=q1:=by
 have e:=h.eq;rw[he] at e;simp only[fe] at e;rw[e];exact⟨⟨rfl,h.steps,h.st.mono (fun j D _=>D) hR,h.lv.mono fun j D=> .inl (J j D),fun j D=>by rcases h.sub j D with I|I;exact .inl (J j I);exact .inr I,h.q0,h.qs,h.sm,h.ok⟩,rfl⟩
theorem PJ.below {wr wr':World} {v:Value} (h:PJ w wr G0 R0 s P S x k ag aw v q1 Gm S1 f L) (D:Bz wr wr'):PJ w wr' G0 R0 s P S x k ag aw v q1 Gm S1 f L:=
 ⟨h.st.below D,h.steps.same (fun g hg _=>D.block g hg) fun g hg=> .inl hg,h.lv.cV D,fun j J=>by rcases h.sub j J with I|⟨I,O⟩;exact .inl I;exact .inr ⟨I,aA O D.size⟩,h.q0,h.qq,h.fu,h.len,h.qs,h.sm,h.ok,h.eq⟩
theorem dR.xX (h:dR w G R s P S) (J:S[x]?=some M):EE M:=by
 obtain⟨C,O,_⟩:=h;have I:x<P.count:=by rw[<-O.sn];exact(az.1 J).1
 obtain⟨b,M',_,D,h5⟩:=O.book I;rw[J] at D;injection D with D;subst D;exact h5.ok
theorem dR.pr (h:dR w G R s P S):∀(x k:Nat) (M:BM) (r:iQ),S[x]?=some M->r∈M.side k->P.fy x r.1=0:=by
 obtain⟨C,D,_⟩:=h;exact D.pr
theorem CJ (s:Nat) (P:PD) (S:Sm) (G R:Nat->Prop) (x k:Nat) (sd p q0 q:Int) (w:World) (h:dR w G R s P S) (ht:lU S x k=some (p,q0)) (hk:k<2) (D:sd=(k:Int)+1) (hq:1<=q) (ax:q<=q0):
  Wz 105 #[Pz s, .agg #[Iz (x:Int),Iz sd],Iz q] w fun e w'=> ∃A c I,e= .returned (.slice A (bM P S x k q).2.length c)/\CD w w' G R s P (bM P S x k q).1 (bM P S x k q).2 A c I/\(bM P S x k q).2≠[]/\(bM P S x k q).2.length<=250:=by
 obtain⟨M,r,l,J,hs,h1,h2⟩:=oE ht;refine(PE s P S G R x k M r l sd q w h J hs hk D ae ae).mono ?_;rintro e w'⟨A,c,I,h3,h4⟩;have O:=uH h.right (h.xX J) J hs hq ae;exact⟨A,c,I,h3,h4,O.1,O.2⟩
theorem pW (h:jZ P S x k=some (p,q,im)):
  (im=none/\lU S x k=some (p,q))\/∃Q,im=some Q/\Q∈mG P.n (lU S) x k/\P.fy x Q.ag=0/\p=Q.ag/\q=Q.aw:=by
 rw[CG] at h;unfold Jw at h
 cases ht:lU S x k with
 |none=>
  cases D:nF k (iq P (lU S) x k) with
  |none=>rw[ht,D] at h;cases h
  |some Q=>
   rw[ht,D] at h;simp only[gf,Prod.mk.injEq] at h;obtain⟨I,J,O⟩:=h;obtain⟨h4,h5⟩:=qF (vt D);exact .inr ⟨Q,O.symm,h4,h5,I.symm,J.symm⟩
 |some r=>
  cases D:nF k (iq P (lU S) x k) with
  |none=>
   rw[ht,D] at h;simp only[gf,Prod.mk.injEq] at h;obtain⟨I,J,O⟩:=h;exact .inl ⟨O.symm,by rw[<-I,<-J]⟩
  |some Q=>
   rw[ht,D] at h;simp only at h
   split at h
   ·simp only[gf,Prod.mk.injEq] at h
    obtain⟨I,J,O⟩:=h;obtain⟨h4,h5⟩:=qF (vt D);exact .inr ⟨Q,O.symm,h4,h5,I.symm,J.symm⟩
   ·simp only[gf,Prod.mk.injEq] at h
    obtain⟨I,J,O⟩:=h;exact .inl ⟨O.symm,by rw[<-I,<-J]⟩
theorem dR.WG (h:dR w G R s P S) (O:lU S x k=some (p,q)):1<=q/\q<=250000000:=by
 obtain⟨M,r,l,hM,hs,h1,h2⟩:=oE O;have hr:r∈M.side k:=by rw[hs];simp
 have D:=h.xX hM;obtain⟨h6,h7,J⟩:=D.lvl hr;have h9:=Gh fun e he=>⟨(J e he).1,(J e he).2.1⟩;have I:r.2≠[]:=by
  unfold BM.side at hr
  split at hr
  ·exact D.XL r hr
  ·exact D.Ol r hr
 have:1<=r.2.length:=by cases hc:r.2 with|nil=>exact absurd hc I|cons a b=>simp
 omega
theorem UA {t:Int} (hP:P.gZ) (hl:S.length=P.count) (J:∀(x:Nat) (M:BM),S[x]?=some M->EE M) (O:∀(x k:Nat) (M:BM) (r:iQ),S[x]?=some M->r∈M.side k->P.fy x r.1=0)
  (hx:x<P.count) (hk:k<2) (h:jZ P S x (1 - k)=some (p,a,im)):GD P x k ⟨p,t,im.isSome,(dA P S x (1 - k) im t).2⟩:=by
 rcases pW h with⟨rfl,ht⟩|⟨Q,rfl,hQ,hw,rfl,rfl⟩
 ·obtain⟨M,r,l,D,hs,h1,I⟩:=oE ht
  refine⟨?_,fun _ f hf=>(qG (show f∈(bM P S x (1 - k) t).2 from hf)).1,fun f hf=>?_,?_⟩
  ·show P.fy x p=0
   rw[<-h1];exact O x (1 - k) M r D (by rw[hs];simp)
  ·have:=qG (show f∈(bM P S x (1 - k) t).2 from hf)
   exact⟨ae,ae⟩
  ·show(bM P S x (1 - k) t).2.length<=500
   exact aF (uK fun M D=>J x M D) ae
 ·have hq:=hP.quote hx (by omega:1 - k<2) hQ
  obtain⟨p0,q0,p1,q1,h0,h1,_⟩:=hq.t;obtain⟨M0,_,_,ax,_⟩:=oE h0;obtain⟨M1,_,_,ay,_⟩:=oE h1;have l0:=(az.1 ax).1;have l1:=(az.1 ay).1;refine⟨hw,fun h=>(by cases h),fun f hf=>?_,?_⟩
  ·have a0:f∈(bM P S Q.i0 Q.k0 t).2++(bM P (bM P S Q.i0 Q.k0 t).1 Q.i1 Q.k1 t).2:=hf
   rcases aJ.1 a0 with I|I
   ·have:=qG I
    exact⟨ae,this.2▸hq.k0⟩
   ·have:=qG I
    exact⟨ae,this.2▸hq.k1⟩
  ·show((bM P S Q.i0 Q.k0 t).2++(bM P (bM P S Q.i0 Q.k0 t).1 Q.i1 Q.k1 t).2).length<=500
   rw[aC];have e1:(bM P S Q.i0 Q.k0 t).2.length<=250:=uK fun M D=>J _ M D;have e2:(bM P (bM P S Q.i0 Q.k0 t).1 Q.i1 Q.k1 t).2.length<=250:=uK fun M D=>by
    rw[yN (Ne.symm hq.ne)] at D;exact J _ M D
   omega
structure nY (wq wx:World) (Gm R0:Nat→Prop) (s:Nat) (P:PD) (S':Sm) (fl:List fG) (g16:Nat) (p t:Int) (imp:Bool) (A:Option Addr) (c:Nat) (Gn:Nat→Prop):Prop where
 st:dR wx Gn R0 s P S'
 own:wx.ownsRow wq.heap.size 240 6 (.slice A fl.length c) fl.length (gW fl)
 D:aE wx g16 186 #[Iz p,Iz t, .bool imp, .slice A fl.length c]
 lv:Lv (fun j=>Gm j∨j=g16) wq wx
 sub:∀j,Gn j→Gm j∨qO wq wx j
 off:∀g,(Value.slice A fl.length c).ownBlock=some g→¬Gn g
theorem mr (l:List fG):(gW l).length=l.length*6:=dX fG.bG l
theorem LR (l m:List fG):gW (l++m)=gW l++gW m:=by simp[gW]
theorem Fp (l:List fG):∀u∈gW l,u.oneCell'=true:=tJ (fun f u hu=>by
 simp only[fG.cells,a9,xd,or_false] at hu;rcases hu with rfl|rfl|rfl|rfl|rfl|rfl<;>rfl) l
theorem nY.more {wq w4 w5 w6:World} {S' a6:Sm} {fl J:List fG} {I:Nat} {t:Int} {imp:Bool} {A A' A2:Option Addr} {c c' c2:Nat} {Gn G':Nat->Prop} {w3:World}
  (h:nY wq w3 Gm R0 s P S' fl I p t imp A c Gn) (b4:Bz w3 w4) (hT:CD w4 w5 Gn R0 s P a6 J A' c' G') (a0:lJ w5 wq.heap.size 240 6 (.slice A fl.length c) (fl.length+J.length) (gW fl++gW J) A2 c2 w6)
  (hg:I<wq.heap.size) (bh:∀j,Gm j->j<wq.heap.size) (a7:¬Gm I) (hR:∀j,R0 j->j<wq.heap.size/\j≠I):
  nY wq (w6.setCell ⟨I,3,none⟩ (.slice A2 (fl++J).length c2)) Gm R0 s P a6 (fl++J) I p t imp A2 c2 G':=by
 have hl:(fl++J).length=fl.length+J.length:=aC ..;have bE:=h.lv.size;have bH:=b4.size;have bQ:=hT.lv.size;have bp:w5.heap.size<=w6.heap.size:=a0.grown.size;have ay:∀g,(Value.slice A fl.length c).ownBlock=some g->wq.heap.size<=g/\g<w3.heap.size:=fun g hg=>h.own.lt g hg;have a4:∀j,G' j->j<w5.heap.size:=fun j hj=>by
  rcases hT.sub j hj with O|⟨O,h2⟩
  ·rcases h.sub j O with h3|⟨h3,h4⟩
   ·have:=bh j h3;omega
   ·omega
  ·exact h2
 have a8:∀j,G' j->(Value.slice A fl.length c).ownBlock≠some j:=fun j hj he=>by
  rcases hT.sub j hj with O|⟨O,h2⟩
  ·exact h.off j he O
  ·have:=ay j he;omega
 have ba:∀j,G' j->j≠I:=fun j hj he=>by
  subst he;rcases hT.sub j hj with O|⟨O,h2⟩
  ·rcases h.sub j O with h3|⟨h3,h4⟩
   ·exact a7 h3
   ·omega
  ·omega
 have a5:¬Gn I:=fun O=>by
  rcases h.sub _ O with h3|⟨h3,h4⟩
  ·exact a7 h3
  ·omega
 have a2:aE w5 I 186 #[Iz p,Iz t, .bool imp, .slice A fl.length c]:=(h.D.below b4).lv hT.lv a5;have bb:=a2.block (a0.grown.block I a2.lt fun e=>cA (ay I e.symm));have bc:w6.ownsRow wq.heap.size 240 6 (.slice A2 (fl++J).length c2) (fl++J).length (gW (fl++J)):=by rw[hl,LR];exact a0.own
 have a3:∀g,(Value.slice A2 (fl++J).length c2).ownBlock=some g->g≠I/\¬G' g:=fun g ax=>by
  rw[hl] at ax;rcases a0.jV with O|O
  ·rw[O] at ax
   exact⟨fun e=>cA (ay g ax),fun h2=>a8 g h2 ax⟩
  ·have h3:(Value.slice A2 (fl.length+J.length) c2).ownBlock=some g:=ax
   rw[O] at h3;injection h3 with h3;exact⟨fun e=>ae,fun h2=>cA (a4 g h2)⟩
 refine⟨?_,aX bc fun g ax=>av _ _ _ _ (a3 g ax).1,bb.set 3 _,?_,fun j hj=>?_,fun g ax=>(a3 g ax).2⟩
 ·refine hT.st.same (fun j hj bf=>?_) (by simp;exact bp)
  have bt:j≠I:=by
   rcases bf with O|O
   ·exact ba j O
   ·exact(hR j O).2
  rw[av _ _ _ _ bt];refine a0.grown.block j hj fun e=>?_;rcases bf with O|O
  ·exact a8 j O e.symm
  ·have:=ay j e.symm;have:=(hR j O).1;omega
 ·have l1:Lv (fun j=>Gm j\/j=I) wq w4:=h.lv.cV b4
  have l2:=l1.trans hT.lv fun j hj=>by
   rcases h.sub j hj with h3|⟨h3,h4⟩
   ·exact .inl (.inl h3)
   ·exact .inr h3
  have l3:=l2.trans (Lv.dy (F:=fun j=>(Value.slice A fl.length c).ownBlock=some j) a0.grown fun j hj=> .inl hj) fun j hj=> .inr (ay j hj).1;exact l3.setCell (p:=⟨I,3,none⟩) (.inr rfl) _
 ·have hz:(w6.setCell ⟨I,3,none⟩ (.slice A2 (fl++J).length c2)).heap.size=w6.heap.size:=bT
  rcases hT.sub j hj with O|⟨O,h2⟩
  ·rcases h.sub j O with h3|⟨h3,h4⟩
   ·exact .inl h3
   ·exact .inr ⟨h3,ae⟩
  ·exact .inr ⟨ae,ae⟩
theorem LV (h:jZ P S x k=some (p,a,im)):∃l0 l1 l2 J:Int,CH (some (p,a,im))=#[.agg #[Iz p,Iz a,Iz l0,Iz l1,Iz l2,Iz J], .bool im.isSome, .bool true]/\∀Q,im=some Q->l0=(Q.i0:Int)/\l1=(Q.k0:Int)+1/\l2=(Q.i1:Int)/\J=(Q.k1:Int)+1:=by
 cases im with
 |none=>exact⟨0,0,0,0,rfl,fun Q D=>by cases D⟩
 |some Q=>
  rcases pW h with⟨I,_⟩|⟨O,I,_,_,h2,h3⟩
  ·cases I
  ·injection I with I
   subst I;exact⟨_,_,_,_,by rw[h2,h3];rfl,fun O D=>by injection D with D;subst D;exact⟨rfl,rfl,rfl,rfl⟩⟩
theorem Tryz.YO (a b c d:Int) (w:World):(Instr.index 176 (.agg #[Iz a,Iz b,Iz c,Iz d]) (Iz 0)).run Tryz.prog w= .ok (.agg #[Iz a,Iz b]) w:=by kernel_rfl
theorem Tryz.YP (a b c d:Int) (w:World):(Instr.index 176 (.agg #[Iz a,Iz b,Iz c,Iz d]) (Iz 1)).run Tryz.prog w= .ok (.agg #[Iz c,Iz d]) w:=by kernel_rfl
def PM (Q:Qt) (i:Nat):Nat:=if i=0 then Q.i0 else Q.i1
def PN (Q:Qt) (i:Nat):Nat:=if i=0 then Q.k0 else Q.k1
def qR (P:PD) (S:Sm) (Q:Qt) (t:Int) (i:Nat):Sm×List fG:=if i=0 then (S,[]) else if i=1 then bM P S Q.i0 Q.k0 t else dA P S Q.i0 Q.k0 (some Q) t
theorem Ft (P:PD) (S:Sm) (Q:Qt) (t:Int) {i:Nat} (hi:i<2):qR P S Q t (i+1)=((bM P (qR P S Q t i).1 (PM Q i) (PN Q i) t).1,(qR P S Q t i).2++(bM P (qR P S Q t i).1 (PM Q i) (PN Q i) t).2):=by
 obtain rfl|rfl:i=0\/i=1:=ae
 ·simp[qR,PM,PN]
 ·simp[qR,PM,PN,dA]
theorem PO {y m:Nat} (h:y≠x):lU (bM P S x k q).1 y m=lU S y m:=by
 unfold lU;rw[yN h]
def WH (w w':World) (G R:Nat→Prop) (s:Nat) (P:PD) (res:Sm×List jz×Int) (aw:Int) (x k:Nat) (e:Ending):Prop:=
 ∃A c L G',e= .returned (.tuple #[.slice A L.length c,Iz res.2.2])∧VT w w' G R s P res (.slice A L.length c) L G' aw x k
theorem GF (s:Nat) (P:PD) (S:Sm) (G R:Nat->Prop) (x k:Nat) (sd ag aw:Int) (w:World) (h:dR w G R s P S) (hx:x<P.count) (hk:k<2) (f3:sd=(k:Int)+1) (hq:1<=aw/\aw<=1000000):
  Wz 64 #[Pz s,Iz (x:Int),Iz sd,Iz ag,Iz aw] w fun e w'=>WH w w' G R s P (dV P aw.toNat S x k ag aw) aw x k e:=by
 have ef:1<=sd/\sd<=2:=by omega
 obtain⟨g6,f4⟩:=hq;have hR:=h.right;obtain⟨G0,eg⟩:=Zn (fun k=>G k/\k<w.heap.size:Nat->Prop);obtain⟨R0,eA⟩:=Zn (fun k=>R k/\k<w.heap.size:Nat->Prop);have h0:dR w G0 R0 s P S:=by
  obtain⟨C,hS,g7,g9,hb⟩:=h;exact⟨C,hS,fun k hk=>by rw[eg];exact⟨g7 k hk,hS.Pt k hk⟩,fun y k hk=>by rw[eg];exact⟨g9 y k hk,hS.NG y k hk⟩,fun k hk=>by rw[eA];exact⟨hb k hk,hS.Ps k hk⟩⟩
 have gG:∀j,G0 j->G j:=fun j hj=>by rw[eg] at hj;exact hj.1
 have gR:∀j,R0 j->R j:=fun j hj=>by rw[eA] at hj;exact hj.1
 have gl:∀j,G0 j->j<w.heap.size:=fun j hj=>by rw[eg] at hj;exact hj.2
 have rl:∀j,R0 j->j<w.heap.size:=fun j hj=>by rw[eA] at hj;exact hj.2
 obtain⟨H,H0,HR,GG,GR,GL,RL,HX,eL⟩:=QG h h0 hR gG gR gl rl hx f3;clear h h0 hR gG gR gl rl eg eA f3
 go_enter Tryz.func64,Tryz.ntmps64
 go_wp2_with fail;refine(Fl s P S G R x sd aw w H.h hx ef ⟨g6,f4⟩).mono ?_;rintro e u⟨rfl,rfl⟩;go_wp2_with fail
 go_loopw [4,12] (fun qv v wr=> ∃q1:Int,qv= Iz q1/\q1<=1000000/\0<=q1/\Hid (∃A c Gm S1 f L,v= .slice A L.length c/\PJ w wr G0 R0 s P S x k ag aw v q1 Gm S1 f L)) (fun qv _ _=>(intOf qv).toNat)
 case atStart=>exact⟨aw,rfl,f4,by omega,ao ⟨none,0,G0,S,aw.toNat,[],rfl,H0.h,⟨aM _ _ _ _,fun g hg=>by simp[Value.ownBlock] at hg,fun y hy=>by cases hy⟩,Lv.refl _ _,fun j hj=> .inl hj,by omega,cM _,af _,by simp,(fun y hy=>by cases hy),by simp,(fun y hy=>by cases hy),by simp⟩⟩
 case round=>
  obtain⟨q1,rfl,il,iF,HI⟩:=hrel;obtain⟨A,c,Gm,S1,f,L,rfl,hI⟩:=HI.h;have a0:=ao hI;clear HI hI
  by_cases f5:0<q1
  ·go_wp2_with fail
   refine(wV sd wr ef).mono ?_;rintro e u⟨rfl,rfl⟩;go_wp2_with fail;refine(PI s P S1 Gm R0 x (1 - k) (3 - sd) wr a0.h.st HX.h (by omega) (by have:=eL.h;omega)).mono ?_;rintro e w1⟨rfl,b1⟩
   cases ei:jZ P S1 x (1 - k) with
   |none=>
    obtain⟨b6,hl⟩:=dF ei b1;clear ei b1;simp only[CH];go_wp2_with fail
    go_ret2
    have hd:=(a0.h.below (au hl.h (.cells #[Iz 0,Iz 0,Iz 0,Iz 0,Iz 0,Iz 0] 178))).done (PL b6.h) GG.h GR.h;refine⟨A,c,L,Gm,by rw[hd.2];rfl,hd.1⟩
   |some r=>
    obtain⟨p,a,im⟩:=r;obtain⟨l0,l1,l2,l3,hv,eI⟩:=LV ei;rw[hv];obtain⟨ib,eM⟩:=Zn im.isSome;rw[<-eM];obtain⟨w2,eB⟩:=Zn (w1.alloc (.cells #[Iz p,Iz a,Iz l0,Iz l1,Iz l2,Iz l3] 178));obtain⟨b7,d6⟩:=Zn w1.heap.size;have f6:=Zq eB d6;have B2:Bz wr w2:=by rw[eB];exact au b1 _
    have ho:Hid (wr.heap.size<=w1.heap.size):=ao b1.size;obtain⟨b6,f7,eC,d7,bE⟩:=rU ei eI eM f6 B2;clear ei eI hv eM f6 B2 b1;go_wp2_with fail;rw[<-eB,<-d6];have eN:=ao d6;clear eB d6;refine(Fk sd ag p k w2 hk eL.h).mono ?_;rintro e u⟨rfl,rfl⟩;obtain⟨z,ez⟩:=Zn (lp k ag p);rw[<-ez];have EZ:=ao ez;clear ez
    cases z
    ·go_wp2_with fail
     go_ret2
     have hd:=(a0.h.below bE.h).done (St b6.h EZ.h.symm) GG.h GR.h;refine⟨A,c,L,Gm,by rw[hd.2];rfl,hd.1⟩
    ·have hz:1<=a/\a<=250000000:=by
      rcases pW b6.h with⟨_,h1⟩|⟨Q,_,h1,_,_,h2⟩
      ·exact a0.h.st.WG h1
      ·obtain⟨p0,b0,p1,b1,h3,h4,h5,_⟩:=(HR.h.quote HX.h (by omega) h1).t
       have h6:=a0.h.st.WG h3;have h7:=a0.h.st.WG h4;omega
     obtain⟨a1,a2⟩:=hz;obtain⟨t,et⟩:∃t,min q1 a=t:=⟨_,rfl⟩;have t1:1<=t:=by omega
     have t2:t<=q1:=by omega
     have t3:t<=a:=by omega
     have c0:Cz w2 b7 0 (Iz p):=d7.h.cell 0;have c1:Cz w2 b7 1 (Iz a):=d7.h.cell 1;obtain⟨wq,eD⟩:=Zn (w2.alloc (.cells #[Iz p,Iz t, .bool ib, .slice none 0 0] 186));obtain⟨I,d8⟩:=Zn w2.heap.size;have f8:=Zq eD d8;have BQ:=Zw eD;obtain⟨T,eT⟩:=Zn (dA P S1 x (1 - k) im t);obtain⟨eE,bH,eF⟩:=fY eT f8 BQ;clear eT f8 BQ
     go_upto_if 55 with(fail)
     rw[<-eD,<-d8];obtain⟨f9,a6⟩:=dF et d8;clear eD d8 et c0 c1
     go_cut [16] (fun v wx=>v= Pz I/\Hid (∃A c Gn,nY wq wx Gm R0 s P T.1 T.2 I p t ib A c Gn))
     case first=>
      cases im with
      |none=>
       obtain rfl:ib=false:=eC.h;have b9:∀j,Gm j->j<wr.heap.size:=fun j hj=>by
        rcases a0.h.sub j hj with h1|h1
        ·have:=GL.h j h1;have:=a0.h.lv.size;omega
        ·exact h1.2
       have ht:lU S1 x (1 - k)=some (p,a):=by
        rcases pW b6.h with⟨_,h1⟩|⟨Q,h1,_⟩
        ·exact h1
        ·cases h1
       have eO:w2.heap.size<=I:=by rw[a6.h];exact af _
       have d9:wr.heap.size<=w2.heap.size:=bE.h.size;have gb:¬Gm I:=fun h1=>by have:=b9 _ h1;omega
       have ba:Bz wr wq:=dW bE.h eF.h;obtain⟨Fs,a7⟩:=Zn (fun j=>j=I:Nat->Prop);have ay:Fs I:=by rw[a7]
       have d1:∀u,aI Fs wq.drew u->Cz u I 1 (Iz t):=fun u hu=>(hu.cell ay).trans (bH.h.cell 1);obtain⟨hB,hC,cd,ck,bQ⟩:=rU b9 ht gb ba a7;clear b9 ht eO d9 gb ba a7 ay;go_wp2_with fail;refine bx (R:=aI Fs) 9 [3,7,9] [0,1,2,5,6,3,4,7,8,9] (by kernel_rfl) (aI.tr _) (aI.J _) (by kernel_rfl) (fun _ _ _ _ _ h=>h) ?_;refine Yt ?_;clear d1;refine Ym fun K hK=>?_;refine(wV sd _ ef).mono ?_;rintro e u⟨rfl,rfl⟩;refine Yo hK (aI.J _ _) ?_;refine Yt ?_;refine Ym fun K hK=>?_;refine(CJ s P S1 Gm R0 x (1 - k) (3 - sd) p a t _ (a0.h.st.below (aS ck.h)) hC.h (by omega) (by have:=eL.h;omega) t1 t3).mono ?_;rintro e w5⟨A',c',G',rfl,hT, -, -⟩;have cl:=bH.h.drew.lv hT.lv cd.h;have z3:Cz w5 I 3 (.slice none 0 0):=cl.cell 3;have y3:Fz w5 I 3:=cl.frozen 3;have hh:aI Fs wq.drew w5:=fun j hj=>by
        rw[bQ.h] at hj;subst hj;exact hT.lv.block _ bH.h.lt cd.h
       have gi:∀g,(Value.slice A' (bM P S1 x (1 - k) t).2.length c').ownBlock=some g->wq.heap.size<=g:=fun g hg=>(hT.own.lt g hg).1;have fin:nY wq (w5.setCell ⟨I,3,none⟩ (.slice A' (bM P S1 x (1 - k) t).2.length c')) Gm R0 s P (bM P S1 x (1 - k) t).1 (bM P S1 x (1 - k) t).2 I p t false A' c' G':=by
        have i3:=bH.h.lt;have gj:∀j,G' j->j≠I:=fun j hj e=>by
         subst e;rcases hT.sub j hj with h1|⟨h1,h2⟩
         ·exact cd.h h1
         ·have h3:wq.heap.size<=j:=h1;omega
        have gp:∀j,R0 j->j≠I:=fun j hj e=>by
         have h1:=RL.h j hj;have h2:=a0.h.lv.size;have h3:=bE.h.size;have h4:=a6.h;omega
        have hD:(Value.slice A' (bM P S1 x (1 - k) t).2.length c').ownBlock≠some I:=fun hg=>by
         obtain⟨cur,hc⟩:=bY hT.own hg;exact jY cl hc (by decide) rfl
        refine⟨hT.st.same (fun j hj eP=>av _ _ _ _ (by rcases eP with h1|h1;exact gj j h1;exact gp j h1)) (by simp),aX hT.own fun g hg=>av _ _ _ _ (by intro e;have e':g=I:=e;rw[e'] at hg;exact hD hg),cl.set 3 _,?_,fun j hj=>?_,hT.off⟩
        ·exact((Lv.refl _ wq).drew.trans hT.lv fun j hj=> .inl (.inl hj)).setCell (p:=⟨I,3,none⟩) (.inr rfl) _
        ·rcases hT.sub j hj with h1|⟨h1,h2⟩
         ·exact .inl h1
         ·exact .inr ⟨h1,by simp;exact h2⟩
       obtain⟨hE,HH⟩:=dF fin hh;clear hT cl fin hh gi;refine Yo hK (HH.h) ?_;refine Yt ?_;refine Zl fun K hK=>?_;go_simp;refine Yl hK ?_;refine aT ?_;go_wp2_with fail;go_meet;exact⟨rfl,ao ⟨A',c',G',by rw[eE.h];exact hE.h⟩⟩
      |some Q=>
       obtain rfl:ib=true:=eC.h;obtain⟨e0,e1,e2,e3⟩:=f7.h Q rfl;have b9:∀j,Gm j->j<wr.heap.size:=fun j hj=>by
        rcases a0.h.sub j hj with h1|h1
        ·have:=GL.h j h1;have:=a0.h.lv.size;omega
        ·exact h1.2
       have gq:XS P.n (lU S1) x (1 - k) Q/\a=Q.aw:=by
        rcases pW b6.h with⟨h1,_⟩|⟨Q',h1,h2,_,_,h3⟩
        ·cases h1
        ·injection h1 with h1
         subst h1;exact⟨HR.h.quote HX.h (by omega) h2,h3⟩
       have d9:wr.heap.size<=w2.heap.size:=bE.h.size;have gv:wr.heap.size<=b7:=by rw[eN.h];have:=bE.h.size;exact ho.h
       have eJ:wr.heap.size<=I:=by rw[a6.h];exact d9
       have eQ:b7≠I:=by have:=d7.h.lt;have:=a6.h;omega
       have cm:=d7.h.below eF.h;have c2:Cz wq b7 2 (Iz l0):=cm.cell 2;have c3:Cz wq b7 3 (Iz l1):=cm.cell 3;have c4:Cz wq b7 4 (Iz l2):=cm.cell 4;have c5:Cz wq b7 5 (Iz l3):=cm.cell 5;have ba:Bz wr wq:=dW bE.h eF.h;have hG:wr.heap.size<=wq.heap.size:=ba.size;have ej:w.heap.size<=wr.heap.size:=a0.h.lv.size;have ea:Hid (∀j,Gm j->j<wq.heap.size):=ao fun j hj=>by have:=b9 j hj;omega
       have cd:Hid (¬Gm I):=ao fun h1=>by have:=b9 I h1;omega
       have gx:Hid (∀j,R0 j->j<wq.heap.size/\j≠I):=ao fun j hj=>by have:=RL.h j hj;exact⟨by omega,by omega⟩
       have eb:Hid (I<wq.heap.size):=ao bH.h.lt;clear hG ej;obtain⟨hB,bR,ia,ck,hH,hJ,hL,hN⟩:=Dw b9 gq eJ ba e0 e1 e2 e3;clear b9 gq d9 gv eJ eQ cm ba e0 e1 e2 e3;go_wp2_with fail;clear c2 c3 c4 c5
       go_loopw [58] (fun v wx=> ∃i:Nat,i<=2/\v= Iz (i:Int)/\Hid (∃A c Gn,nY wq wx Gm R0 s P (qR P S1 Q t i).1 (qR P S1 Q t i).2 I p t true A c Gn)) (fun v _=>2 - (intOf v).toNat)
       case atStart=>exact⟨0,by omega,rfl,ao ⟨none,0,Gm,a0.h.st.below ck.h,aM _ _ _ _,bH.h,Lv.refl _ _,fun j hj=> .inl hj,fun g hg=>by simp[Value.ownBlock] at hg⟩⟩
       case round=>
        obtain⟨i,hi,rfl,HL⟩:=hrel;obtain⟨Af,cf,Gn,hF⟩:=HL.h;obtain rfl|rfl|rfl:i=0\/i=1\/i=2:=by omega
        ·have cH:(qR P S1 Q t 0).2.length<=1000:=by
          simp[qR]
         obtain⟨p0,b0,p1,b1,h3,h4,h5,_⟩:=bR.h.1.t;have eR:=bR.h.2;have cQ:lU (qR P S1 Q t 0).1 Q.i0 Q.k0=some (p0,b0):=by
          exact h3
         have ek:t<=b0:=by omega
         have el:Q.k0<2:=bR.h.1.k0;obtain⟨Si,bU⟩:=Zn ((qR P S1 Q t 0).1);obtain⟨fi,bV⟩:=Zn ((qR P S1 Q t 0).2);rw[<-bU,<-bV] at hF;rw[<-bU] at cQ;rw[<-bV] at cH;have g1:Cz wr I 1 (Iz t):=hF.D.cell 1;have g3:Cz wr I 3 (.slice Af fi.length cf):=hF.D.cell 3;obtain⟨w3,b4⟩:=Zn (wr.alloc (.cells #[Iz l0,Iz l1] 175));obtain⟨bb,bc⟩:=Zn wr.heap.size;have b5:=Zq b4 bc;have B3:=Zw b4;have a5:=hF.D.below B3;obtain⟨Fs,a7⟩:=Zn (fun j=>j=I\/j=bb:Nat->Prop);have ay:Fs I:=by rw[a7];exact .inl rfl
         have cS:Fs bb:=by rw[a7];exact .inr rfl
         have d1:∀u,aI Fs w3.drew u->Cz u I 1 (Iz t):=fun u hu=>(hu.cell ay).trans (a5.cell 1);have d3:∀u,aI Fs w3.drew u->Cz u I 3 (.slice Af fi.length cf):=fun u hu=>(hu.cell ay).trans (a5.cell 3);have d4:∀u,aI Fs w3.drew u->Cz u bb 0 (Iz l0):=fun u hu=>(hu.cell cS).trans (b5.cell 0);have d5:∀u,aI Fs w3.drew u->Cz u bb 1 (Iz l1):=fun u hu=>(hu.cell cS).trans (b5.cell 1);obtain⟨ax,eS,eU,eV,eW,eY,eZ,bf,cn,a3,bQ,bh⟩:=QN hF cQ ek el bU bV cH B3 b5 a5 a7 bc;clear hF cQ ek el bU bV cH B3 b5 a5 a7 ay cS HL hi h3 h4 h5 eR;have e4:=Tryz.YO l0 l1 l2 l3 wr;go_wp2_with fail;clear e4;rw[<-b4,<-bh.h];clear b4 bc g1 g3;refine bx (R:=aI Fs) 9 [6,7,9] [0,1,2,3,4,5,6,7,8,9] (by kernel_rfl) (aI.tr _) (aI.J _) (by kernel_rfl) (fun _ _ _ _ _ h=>h) ?_;refine Yt ?_;clear d1 d3 d4 d5;refine Ym fun K hK=>?_;have cT:=CJ s P Si Gn R0 Q.i0 Q.k0 ((Q.k0:Int)+1) p0 b0 t _ ((ax.h.st.below bf.h).drew) eS.h eV.h rfl t1 eU.h;rw[<-hH.h,<-hJ.h] at cT;refine cT.mono ?_;clear cT;rintro e w5⟨A',c',G',rfl,hT,cX,dc⟩;have bp:CD w3 w5 Gn R0 s P (bM P Si Q.i0 Q.k0 t).1 (bM P Si Q.i0 Q.k0 t).2 A' c' G':=⟨hT.own,hT.st,(Lv.refl _ w3).drew.then hT.lv,hT.sub,hT.off⟩;obtain⟨fT,dp⟩:=Zn ((bM P Si Q.i0 Q.k0 t).2);rw[<-dp] at bp cX dc⊢;have a4:∀j,Gn j->j<wr.heap.size:=fun j hj=>by
          rcases ax.h.sub j hj with h1|⟨h1,h2⟩
          ·have:=ea.h j h1;have:=ax.h.lv.size;omega
          ·exact h2
         have ct:¬Gn I:=fun h1=>by
          rcases ax.h.sub _ h1 with h2|⟨h2,_⟩
          ·exact cd.h h2
          ·have:=eb.h;omega
         have cv:¬Gn bb:=fun h1=>by have:=a4 _ h1;have:=bh.h;omega
         have hh:aI Fs w3.drew w5:=fun j hj=>by
          rw[bQ.h] at hj;rcases hj with rfl|rfl
          ·exact hT.lv.block _ a3.h.lt ct
          ·exact hT.lv.block _ cn.h.lt cv
         have cF:w5.ownsRow wq.heap.size 240 6 (.slice Af fi.length cf) fi.length (gW fi):=aX (bP ax.h.own bf.h) fun g hg=>hT.lv.block g (by have:=(ax.h.own.lt g hg).2;have:=bf.h.size;show g<w3.heap.size;omega) (ax.h.off g hg);have eo:wq.heap.size<=w5.heap.size:=by have h1:=ax.h.lv.size;have h2:=bf.h.size;have h3:w3.heap.size<=w5.heap.size:=bp.lv.size;omega
         have C5:=dP.O bp.own;obtain⟨HT,HH,e5,e6,e7,e9,fa,ep⟩:=Dw bp hh cF eo C5 cX dc dp;clear hT bp hh cF eo C5 a4 ct cv cX dc dp;refine Yo hK (HH.h) ?_;refine Zm fun K hK=>?_;refine fZ LM e5.h (A:=A') (m:=fT.length) (c:=c') (news:=gW fT) _ _ rfl rfl rfl (mr fT) (by intro h0;have h1:=mr fT;rw[h0] at h1;simp at h1;exact e9.h (aP (by omega))) e7.h (Fp fT) (by have:=fa.h;have:=eZ.h;omega) e6.h (fi.length+fT.length) _ rfl rfl ?_;intro A2 c2 w6 dS;have a8:∀g,(Value.slice Af fi.length cf).ownBlock=some g->wq.heap.size<=g/\g<wr.heap.size:=fun g hg=>ax.h.own.lt g hg;have h6:aI Fs w5 w6:=fun j hj=>by
          have dT:=hj;rw[bQ.h] at dT;have ff:j<w5.heap.size:=by
           have h3:w3.heap.size<=w5.heap.size:=HT.h.lv.size;rcases dT with rfl|rfl
           ·have:=a3.h.lt;omega
           ·have:=cn.h.lt;omega
          refine dS.grown.block j ff fun e=>?_;have hr:=a8 j e.symm;rcases dT with rfl|rfl
          ·have:=eb.h;omega
          ·have:=bh.h;omega
         have bt:=nY.more ax.h bf.h HT.h dS eb.h ea.h cd.h gx.h;have ay:Fs I:=by rw[bQ.h];exact .inl rfl
         have z3:Cz w6 I 3 (.slice Af fi.length cf):=((h6.cell ay).trans (HH.h.cell ay)).trans (a3.h.cell 3);have y3:Fz w6 I 3:=(aY (a:=⟨I,3,none⟩) (h6 I ay)).trans ((aY (a:=⟨I,3,none⟩) (HH.h I ay)).trans (a3.h.frozen 3));rw[aC] at bt;obtain⟨er,H6⟩:=dF bt h6;clear dS a8 h6 bt ay;refine Yo hK (H6.h) ?_;refine Yt ?_;refine Zl fun K hK=>?_;go_simp;refine Yl hK ?_;refine aT ?_;go_wp2_with fail;go_roundw
         case rel=>
          refine⟨1,by omega,rfl,ao ⟨A2,c2,G',?_⟩⟩;have h7:=Ft P S1 Q t (i:=0) (by omega);have fk:PM Q 0=Q.i0:=rfl;have fq:PN Q 0=Q.k0:=rfl;rw[fk,fq,<-eW.h,<-eY.h,<-ep.h] at h7;show nY wq _ Gm R0 s P (qR P S1 Q t (0+1)).1 (qR P S1 Q t (0+1)).2 I p t true A2 c2 G';rw[h7];simp only[aC];exact er.h
         case measure=>simp[intOf]
        ·have cH:(qR P S1 Q t 1).2.length<=1000:=by
          have h9:=a0.h.st;obtain⟨p0,b0,p1,b1,h3,h4,h5,_⟩:=bR.h.1.t;obtain⟨M,r,lr,hM,hs,_,h8⟩:=oE h3;have:=(uH h9.right (h9.xX hM) hM hs t1 (by have:=bR.h.2;omega)).2;show(bM P S1 Q.i0 Q.k0 t).2.length<=1000;omega
         obtain⟨p0,b0,p1,b1,h3,h4,h5,_⟩:=bR.h.1.t;have eR:=bR.h.2;have cQ:lU (qR P S1 Q t 1).1 Q.i1 Q.k1=some (p1,b1):=by
          show lU (bM P S1 Q.i0 Q.k0 t).1 Q.i1 Q.k1=_;rw[PO (Ne.symm bR.h.1.ne)];exact h4
         have ek:t<=b1:=by omega
         have el:Q.k1<2:=bR.h.1.k1;obtain⟨Si,bU⟩:=Zn ((qR P S1 Q t 1).1);obtain⟨fi,bV⟩:=Zn ((qR P S1 Q t 1).2);rw[<-bU,<-bV] at hF;rw[<-bU] at cQ;rw[<-bV] at cH;have g1:Cz wr I 1 (Iz t):=hF.D.cell 1;have g3:Cz wr I 3 (.slice Af fi.length cf):=hF.D.cell 3;obtain⟨w3,b4⟩:=Zn (wr.alloc (.cells #[Iz l2,Iz l3] 175));obtain⟨bb,bc⟩:=Zn wr.heap.size;have b5:=Zq b4 bc;have B3:=Zw b4;have a5:=hF.D.below B3;obtain⟨Fs,a7⟩:=Zn (fun j=>j=I\/j=bb:Nat->Prop);have ay:Fs I:=by rw[a7];exact .inl rfl
         have cS:Fs bb:=by rw[a7];exact .inr rfl
         have d1:∀u,aI Fs w3.drew u->Cz u I 1 (Iz t):=fun u hu=>(hu.cell ay).trans (a5.cell 1);have d3:∀u,aI Fs w3.drew u->Cz u I 3 (.slice Af fi.length cf):=fun u hu=>(hu.cell ay).trans (a5.cell 3);have d4:∀u,aI Fs w3.drew u->Cz u bb 0 (Iz l2):=fun u hu=>(hu.cell cS).trans (b5.cell 0);have d5:∀u,aI Fs w3.drew u->Cz u bb 1 (Iz l3):=fun u hu=>(hu.cell cS).trans (b5.cell 1);obtain⟨ax,eS,eU,eV,eW,eY,eZ,bf,cn,a3,bQ,bh⟩:=QN hF cQ ek el bU bV cH B3 b5 a5 a7 bc;clear hF cQ ek el bU bV cH B3 b5 a5 a7 ay cS HL hi h3 h4 h5 eR;have e4:=Tryz.YP l0 l1 l2 l3 wr;go_wp2_with fail;clear e4;rw[<-b4,<-bh.h];clear b4 bc g1 g3;refine bx (R:=aI Fs) 9 [6,7,9] [0,1,2,3,4,5,6,7,8,9] (by kernel_rfl) (aI.tr _) (aI.J _) (by kernel_rfl) (fun _ _ _ _ _ h=>h) ?_;refine Yt ?_;clear d1 d3 d4 d5;refine Ym fun K hK=>?_;have cT:=CJ s P Si Gn R0 Q.i1 Q.k1 ((Q.k1:Int)+1) p1 b1 t _ ((ax.h.st.below bf.h).drew) eS.h eV.h rfl t1 eU.h;rw[<-hL.h,<-hN.h] at cT;refine cT.mono ?_;clear cT;rintro e w5⟨A',c',G',rfl,hT,cX,dc⟩;have bp:CD w3 w5 Gn R0 s P (bM P Si Q.i1 Q.k1 t).1 (bM P Si Q.i1 Q.k1 t).2 A' c' G':=⟨hT.own,hT.st,(Lv.refl _ w3).drew.then hT.lv,hT.sub,hT.off⟩;obtain⟨fT,dp⟩:=Zn ((bM P Si Q.i1 Q.k1 t).2);rw[<-dp] at bp cX dc⊢;have a4:∀j,Gn j->j<wr.heap.size:=fun j hj=>by
          rcases ax.h.sub j hj with h1|⟨h1,h2⟩
          ·have:=ea.h j h1;have:=ax.h.lv.size;omega
          ·exact h2
         have ct:¬Gn I:=fun h1=>by
          rcases ax.h.sub _ h1 with h2|⟨h2,_⟩
          ·exact cd.h h2
          ·have:=eb.h;omega
         have cv:¬Gn bb:=fun h1=>by have:=a4 _ h1;have:=bh.h;omega
         have hh:aI Fs w3.drew w5:=fun j hj=>by
          rw[bQ.h] at hj;rcases hj with rfl|rfl
          ·exact hT.lv.block _ a3.h.lt ct
          ·exact hT.lv.block _ cn.h.lt cv
         have cF:w5.ownsRow wq.heap.size 240 6 (.slice Af fi.length cf) fi.length (gW fi):=aX (bP ax.h.own bf.h) fun g hg=>hT.lv.block g (by have:=(ax.h.own.lt g hg).2;have:=bf.h.size;show g<w3.heap.size;omega) (ax.h.off g hg);have eo:wq.heap.size<=w5.heap.size:=by have h1:=ax.h.lv.size;have h2:=bf.h.size;have h3:w3.heap.size<=w5.heap.size:=bp.lv.size;omega
         have C5:=dP.O bp.own;obtain⟨HT,HH,e5,e6,e7,e9,fa,ep⟩:=Dw bp hh cF eo C5 cX dc dp;clear hT bp hh cF eo C5 a4 ct cv cX dc dp;refine Yo hK (HH.h) ?_;refine Zm fun K hK=>?_;refine fZ LM e5.h (A:=A') (m:=fT.length) (c:=c') (news:=gW fT) _ _ rfl rfl rfl (mr fT) (by intro h0;have h1:=mr fT;rw[h0] at h1;simp at h1;exact e9.h (aP (by omega))) e7.h (Fp fT) (by have:=fa.h;have:=eZ.h;omega) e6.h (fi.length+fT.length) _ rfl rfl ?_;intro A2 c2 w6 dS;have a8:∀g,(Value.slice Af fi.length cf).ownBlock=some g->wq.heap.size<=g/\g<wr.heap.size:=fun g hg=>ax.h.own.lt g hg;have h6:aI Fs w5 w6:=fun j hj=>by
          have dT:=hj;rw[bQ.h] at dT;have ff:j<w5.heap.size:=by
           have h3:w3.heap.size<=w5.heap.size:=HT.h.lv.size;rcases dT with rfl|rfl
           ·have:=a3.h.lt;omega
           ·have:=cn.h.lt;omega
          refine dS.grown.block j ff fun e=>?_;have hr:=a8 j e.symm;rcases dT with rfl|rfl
          ·have:=eb.h;omega
          ·have:=bh.h;omega
         have bt:=nY.more ax.h bf.h HT.h dS eb.h ea.h cd.h gx.h;have ay:Fs I:=by rw[bQ.h];exact .inl rfl
         have z3:Cz w6 I 3 (.slice Af fi.length cf):=((h6.cell ay).trans (HH.h.cell ay)).trans (a3.h.cell 3);have y3:Fz w6 I 3:=(aY (a:=⟨I,3,none⟩) (h6 I ay)).trans ((aY (a:=⟨I,3,none⟩) (HH.h I ay)).trans (a3.h.frozen 3));rw[aC] at bt;obtain⟨er,H6⟩:=dF bt h6;clear dS a8 h6 bt ay;refine Yo hK (H6.h) ?_;refine Yt ?_;refine Zl fun K hK=>?_;go_simp;refine Yl hK ?_;refine aT ?_;go_wp2_with fail;go_roundw
         case rel=>
          refine⟨2,by omega,rfl,ao ⟨A2,c2,G',?_⟩⟩;have h7:=Ft P S1 Q t (i:=1) (by omega);have fk:PM Q 1=Q.i1:=rfl;have fq:PN Q 1=Q.k1:=rfl;rw[fk,fq,<-eW.h,<-eY.h,<-ep.h] at h7;show nY wq _ Gm R0 s P (qR P S1 Q t (1+1)).1 (qR P S1 Q t (1+1)).2 I p t true A2 c2 G';rw[h7];simp only[aC];exact er.h
         case measure=>simp[intOf]
        ·have ax:=ao hF
         clear hF HL hi;go_wp2_with fail;go_meet;refine⟨rfl,ao ⟨Af,cf,Gn,?_⟩⟩;rw[eE.h];exact ax.h
     obtain⟨rfl,HF⟩:=hcut;obtain⟨A',c',Gn,hF⟩:=HF.h;obtain⟨fl,fx⟩:=Zn T.2;rw[<-fx] at hF;have b0:Cz wc I 0 (Iz p):=hF.D.cell 0;have b1:Cz wc I 1 (Iz t):=hF.D.cell 1;have b2:Cz wc I 2 (.bool ib):=hF.D.cell 2;have b3:Cz wc I 3 (.slice A' fl.length c'):=hF.D.cell 3;have ba:Bz wr wq:=dW bE.h eF.h;have gy:wr.heap.size<=w2.heap.size:=bE.h.size;have eO:wr.heap.size<=I:=by rw[a6.h];exact gy
     have ej:w.heap.size<=wr.heap.size:=a0.h.lv.size;have fz:wr.heap.size<=wq.heap.size:=ba.size;have fH:wq.heap.size<=wc.heap.size:=hF.lv.size;have eu:∀g,g<wr.heap.size->¬Gm g->wc.heap[g]?=wr.heap[g]?:=fun g hg hn=>(hF.lv.block g (by omega) (by rintro(h1|h1);exact hn h1;omega)).trans (ba.block g hg);have gA:vu w.heap.size wc Gn (.slice A L.length c) L:=a0.h.steps.same eu fun g hg=>by
      rcases hF.sub g hg with h1|⟨h1,h2⟩
      ·exact .inl h1
      ·exact .inr (by omega)
     have i4:L.length<=1000000:=by have:=a0.h.len;have:=a0.h.q0;omega
     obtain⟨ed,d2,hO,gI,ck⟩:=rU hF gA fx (And.intro ej (And.intro fz fH)) ba;clear hF gA fx eu ba gy eO ej fz fH HF
     go_wp2_with (at_builtin
                  refine dO WE d2.h.row #[Iz p,Iz t, .bool ib, .slice A' fl.length c'] rfl _ _ rfl rfl rfl rfl (by intro u hu;simp at hu;rcases hu with rfl|rfl|rfl|rfl<;>rfl) (by omega) (by have:=gI.h;omega) ?_;intro A8 c8 w8 eK g8 b8 l8)
     obtain⟨hP,eG,hQ⟩:=fY eK g8 l8;clear eK g8 b8 l8 b0 b1 b2 b3;go_roundw
     case rel=>
      obtain⟨ej,fz,fH⟩:=gI.h;have hI:=a0.h;obtain⟨f',hU⟩:∃f',f=f'+1:=⟨f - 1,by have:=hI.fu;omega⟩;obtain⟨y,ey⟩:=Zn (⟨⟨p,t,ib,T.2⟩,A',c'⟩:zJ);have f0:=hO.h;have hV:y.cells=[Iz p,Iz t, .bool ib, .slice A' fl.length c']:=by rw[ey,f0];rfl
      have f1:(L++[y]).length=L.length+1:=by simp
      have gO:wc.heap.size<=w8.heap.size:=eG.h.size;have a8:∀g,(Value.slice A L.length c).ownBlock=some g->w.heap.size<=g/\g<wc.heap.size:=fun g hg=>d2.h.row.lt g hg;have a4:∀j,Gn j->j<wc.heap.size:=fun j hj=>by
       rcases ed.h.sub j hj with h1|⟨h1,h2⟩
       ·rcases hI.sub j h1 with h3|⟨h3,h4⟩
        ·have:=GL.h j h3;omega
        ·omega
       ·exact h2
      have gP:∀(v:Value) (n:Nat) (xs:List Value),wc.ownsRow w.heap.size 240 6 v n xs->w8.ownsRow w.heap.size 240 6 v n xs:=fun v n xs hv=>aX hv fun g hg=>eG.h.block g (hv.lt g hg).2 fun e=>by
       obtain⟨cur,hc⟩:=bY hv hg;obtain⟨ih,hW⟩:=bY d2.h.row e.symm;exact jY hc hW (by decide) rfl
      have gT:=Uz (P:=P) (f:=f') (S:=S1) (x:=x) (k:=k) (ag:=ag) f5 b6.h EZ.h.symm;rw[f9.h,<-eE.h,<-eC.h,<-hU] at gT;refine⟨q1 - t,rfl,by omega,by omega,ao ⟨A8,c8,Gn,T.1,f',L++[y],by rw[f1],?_,?_,?_,fun j hj=>?_,by omega,by have:=hI.qq;omega,by have:=hI.fu;omega,?_,?_,?_,?_,?_⟩⟩
      ·refine ed.h.st.same (fun j hj eP=>eG.h.block j hj fun e=>?_) gO
       rcases eP with h1|h1
       ·exact d2.h.off j e.symm h1
       ·have:=RL.h j h1;have:=a8 j e.symm;omega
      ·refine⟨by rw[f1,Jy,hV];exact hP.h,fun g hg g4=>?_,fun y' ew=>?_⟩
       ·rcases hQ.h with h1|h1
        ·exact d2.h.off g (h1▸hg) g4
        ·rw[h1] at hg
         injection hg with hg;have:=a4 g g4;omega
       ·rcases aJ.1 ew with h1|h1
        ·exact⟨gP _ _ _ (d2.h.fl y' h1).1,(d2.h.fl y' h1).2⟩
        ·have h2:y'=y:=by simpa using h1
         subst h2;have hX:y'.v= .slice A' fl.length c':=by rw[ey,f0];rfl
         have hY:y'.st.U=fl:=by rw[ey,f0]
         rw[hX,hY];exact⟨gP _ _ _ (ch ed.h.own (by omega)),ed.h.off⟩
      ·refine(((hI.lv.cV ck.h).trans ed.h.lv fun j hj=>?_).trans (Lv.dy (F:=fun j=>(Value.slice A L.length c).ownBlock=some j) eG.h fun j hj=> .inl hj) fun j hj=> .inr (a8 j hj).1)
       rcases hj with h1|h1
       ·rcases hI.sub j h1 with h2|⟨h2,_⟩
        ·exact .inl h2
        ·exact .inr h2
       ·have h2:=a6.h;have h3:=bE.h.size;exact .inr (by omega)
      ·rcases ed.h.sub j hj with h1|⟨h1,h2⟩
       ·rcases hI.sub j h1 with h3|⟨h3,h4⟩
        ·exact .inl h3
        ·exact .inr ⟨h3,by omega⟩
       ·exact .inr ⟨by omega,by omega⟩
      ·rw[f1];have:=hI.len;omega
      ·intro y' ew
       rcases aJ.1 ew with h1|h1
       ·exact hI.qs y' h1
       ·have h2:y'=y:=by simpa using h1
        subst h2;rw[show y'.st.aw=t by rw[ey]];exact t1
      ·have f2:y.st.aw=t:=by rw[ey]
       rw[cx,MR,aW,iM,f2];have:=hI.sm;simp only[cN,List.sum_nil];omega
      ·intro y' ew
       rcases aJ.1 ew with h1|h1
       ·exact hI.ok y' h1
       ·have h2:y'=y:=by simpa using h1
        subst h2;rw[show y'.st=⟨p,t,im.isSome,(dA P S1 x (1 - k) im t).2⟩ by rw[ey,eE.h,eC.h]];exact UA HR.h hI.st.len (fun x M hM=>hI.st.xX hM) hI.st.pr HX.h hk b6.h
      ·have he:=hI.eq
       rw[gT] at he;rw[he,cx,bD];have f2:y.st=⟨p,t,ib,T.2⟩:=by rw[ey]
       simp only[aW,iM,f2];rfl
     case measure=>simp[intOf];omega
  ·obtain rfl:q1=0:=by omega
   go_wp2_with fail
   go_ret2
   have hd:=a0.h.done (PK (cM 0)) GG.h GR.h;refine⟨A,c,L,Gm,by rw[hd.2];rfl,hd.1⟩
end Go.Proofs.YtbaaheidifacaaaGreat
