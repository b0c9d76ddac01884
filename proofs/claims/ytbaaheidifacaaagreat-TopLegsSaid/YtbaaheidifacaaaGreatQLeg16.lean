import Derived.Test.YtbaaheidifacaaaGreatQMatch8
import Derived.Test.YtbaaheidifacaaaGreatQLeg17
set_option linter.defProp false
set_option linter.unusedVariables false
set_option linter.unusedSimpArgs false
set_option maxRecDepth 100000
set_option maxHeartbeats 12800000
namespace Go.Proofs.YtbaaheidifacaaaGreat
variable {Q:Exit→Act→World→Prop}
open Go.RowKit
noncomputable def adZ:Code:=((Tryz.f3.body.bind (adY 16)).getD .skip)
theorem aei {b o j j1 j2 N cp ln lf Z:Nat} {b1 a3 b3 a4 b4 b5 b6 a7 b7:Int} {D:World} {v0 v1 v2 v3 v4 v5 v6 v7 v8 v11 hU v13 h7 h8 v16 v17 v18 v19 v20 v21 v22 v23 v24 v25 v26 v27 v28 v29 v30 v31 v32 v33 v34 v35 v36 v37 v38 v39 v40 v41 v42 v43 v44 v45 v46 v47 v48 v49 v50 v51 v52 v53 v54 v55 v56 v57 v58 v59 v60 v61 v62 v63 v64 v65 v66 v67 v68 v69 v70 v71 v72 v73 v74 v75 v76 v77 v78 v79 hy hz hB hC hD hE hG hH hI hJ hV hW hX hY h0 h1 h2 h3 h4 h5 bc bf bh bp bt bE bH bQ bR bU bV b8 b9 cd cf ck cl cm cn ct cv cF cH cQ cS cT cX c0 dc dp dS dT d2 d3 d4 d5 d6 d7 d8 d9 ea eb ed ef eg ei ej ek el eo ep er et eu ew ey ez eA eB eC eD eE eF eG eI eJ eK eL eM eN eO eP eQ eR eS eT eU eV eW eY eZ e0 e3 e4 e5 e6 e7 e9 fa ff fi fk fq fx fz fH fT f8 f9 gi gj gq gv gx gy gA gG gI gO gP gR gT g8 g9 hh hj hk hl ho ht:Value}
  (EZ:Hid (Z=D.heap.size))
  (hb:b<D.heap.size)
  (f0:D.cell? ⟨b,o+j1*8,none⟩=some (Iz 3))
  (f1:D.cell? ⟨b,o+j1*8+1,none⟩=some (Iz b1))
  (f2:D.cell? ⟨b,o+j1*8+2,none⟩=some (Iz (ln:Int)))
  (f3:D.cell? ⟨b,o+j1*8+3,none⟩=some (Iz a3))
  (f4:D.cell? ⟨b,o+j1*8+4,none⟩=some (Iz a4))
  (f5:D.cell? ⟨b,o+j1*8+5,none⟩=some (Iz b5))
  (f6:D.cell? ⟨b,o+j1*8+6,none⟩=some (Iz b6))
  (f7:D.cell? ⟨b,o+j1*8+7,none⟩=some (Iz a7))
  (g0:D.cell? ⟨b,o+j2*8,none⟩=some (Iz 3))
  (g1:D.cell? ⟨b,o+j2*8+1,none⟩=some (Iz b1))
  (g2:D.cell? ⟨b,o+j2*8+2,none⟩=some (Iz (lf:Int)))
  (g3:D.cell? ⟨b,o+j2*8+3,none⟩=some (Iz b3))
  (g4:D.cell? ⟨b,o+j2*8+4,none⟩=some (Iz b4))
  (g5:D.cell? ⟨b,o+j2*8+5,none⟩=some (Iz b5))
  (g6:D.cell? ⟨b,o+j2*8+6,none⟩=some (Iz b6))
  (g7:D.cell? ⟨b,o+j2*8+7,none⟩=some (Iz b7))
  (i6:(j1:Int)<N)
  (i7:(j2:Int)<N)
  (h9:IntKind.i64.wrap ((j:Int)+1)=(j1:Int))
  (ia:IntKind.i64.wrap ((j:Int)+2)=(j2:Int))
  (h6:∀c a (d:Tmp) v w,Q (.panic c) (Act.put a (some d) v) w->Q (.panic c) a w)
  (hQ:∀{hy hz hB hC hD hE hG hH hI hJ:Value} {ga gb:Nat} {w':World},Hid (aE w' ga 40 #[Iz 3,Iz b1,Iz (ln:Int),Iz a3,Iz a4,Iz b5,Iz b6,Iz a7]/\aE w' gb 40 #[Iz 3,Iz b1,Iz (lf:Int),Iz b3,Iz b4,Iz b5,Iz b6,Iz b7]/\Z<=ga/\Z<=gb/\Below Z D w')->Q .normal ⟨#[v0,v1,v2,v3,v4,v5,v6,v7,v8, .slice (some ⟨b,o,none⟩) N cp,Iz (j:Int),v11,hU,v13, Pz ga, Pz gb,v16,v17,v18,v19,v20,v21,v22,v23,v24,v25,v26,v27,v28,v29,v30,v31,v32,v33,v34,v35,v36,v37,v38,v39,v40,v41,v42,v43,v44,v45,v46,v47,v48,v49,v50,v51,v52,v53,v54,v55,v56,v57,v58,v59,v60,v61,v62,v63,v64,v65,v66,v67,v68,v69,v70,v71,v72,v73,v74,v75,v76,v77,v78,v79,hy,hz,hB,hC,hD,hE,hG,hH,hI,hJ,hV,hW,hX,hY,h0,h1,h2,h3,h4,h5,bc,bf,bh,bp,bt,bE,bH,bQ,bR,bU,bV,b8,b9,cd,cf,ck,cl,cm,cn,ct,cv,cF,cH,cQ,cS,cT,cX,c0,dc,dp,dS,dT,d2,d3,d4,d5,d6,d7,d8,d9,ea,eb,ed,ef,eg,ei,ej,ek,el,eo,ep,er,et,eu,ew,ey,ez,eA,eB,eC,eD,eE,eF,eG,eI,eJ,eK,eL,eM,eN,eO,eP,eQ,eR,eS,eT,eU,eV,eW,eY,eZ,e0,e3,e4,e5,e6,e7,e9,fa,ff,fi,fk,fq,fx,fz,fH,fT,f8,f9,gi,gj,gq,gv,gx,gy,gA,gG,gI,gO,gP,gR,gT,g8,g9,hh,hj,hk,hl,ho,ht],[]⟩ w'):
  adZ.wp Tryz.prog Q ⟨#[v0,v1,v2,v3,v4,v5,v6,v7,v8, .slice (some ⟨b,o,none⟩) N cp,Iz (j:Int),v11,hU,v13,h7,h8,v16,v17,v18,v19,v20,v21,v22,v23,v24,v25,v26,v27,v28,v29,v30,v31,v32,v33,v34,v35,v36,v37,v38,v39,v40,v41,v42,v43,v44,v45,v46,v47,v48,v49,v50,v51,v52,v53,v54,v55,v56,v57,v58,v59,v60,v61,v62,v63,v64,v65,v66,v67,v68,v69,v70,v71,v72,v73,v74,v75,v76,v77,v78,v79,hy,hz,hB,hC,hD,hE,hG,hH,hI,hJ,hV,hW,hX,hY,h0,h1,h2,h3,h4,h5,bc,bf,bh,bp,bt,bE,bH,bQ,bR,bU,bV,b8,b9,cd,cf,ck,cl,cm,cn,ct,cv,cF,cH,cQ,cS,cT,cX,c0,dc,dp,dS,dT,d2,d3,d4,d5,d6,d7,d8,d9,ea,eb,ed,ef,eg,ei,ej,ek,el,eo,ep,er,et,eu,ew,ey,ez,eA,eB,eC,eD,eE,eF,eG,eI,eJ,eK,eL,eM,eN,eO,eP,eQ,eR,eS,eT,eU,eV,eW,eY,eZ,e0,e3,e4,e5,e6,e7,e9,fa,ff,fi,fk,fq,fx,fz,fH,fT,f8,f9,gi,gj,gq,gv,gx,gy,gA,gG,gI,gO,gP,gR,gT,g8,g9,hh,hj,hk,hl,ho,ht],[]⟩ D:=by
 conv=>arg 2;whnf
 have mv:∀(a:Addr) (v:Value),a.block=b->D.cell? a=some v->∀u,Below Z D.drew u->u.cell? a=some v:=fun a v ha hv u hu=>(hu.cell (p:=a) (ha▸EZ.h▸hb)).trans hv;replace f0:=mv ⟨b,o+j1*8,none⟩ _ rfl f0;replace f1:=mv ⟨b,o+j1*8+1,none⟩ _ rfl f1;replace f2:=mv ⟨b,o+j1*8+2,none⟩ _ rfl f2;replace f3:=mv ⟨b,o+j1*8+3,none⟩ _ rfl f3;replace f4:=mv ⟨b,o+j1*8+4,none⟩ _ rfl f4;replace f5:=mv ⟨b,o+j1*8+5,none⟩ _ rfl f5;replace f6:=mv ⟨b,o+j1*8+6,none⟩ _ rfl f6;replace f7:=mv ⟨b,o+j1*8+7,none⟩ _ rfl f7;replace g0:=mv ⟨b,o+j2*8,none⟩ _ rfl g0;replace g1:=mv ⟨b,o+j2*8+1,none⟩ _ rfl g1;replace g2:=mv ⟨b,o+j2*8+2,none⟩ _ rfl g2;replace g3:=mv ⟨b,o+j2*8+3,none⟩ _ rfl g3;replace g4:=mv ⟨b,o+j2*8+4,none⟩ _ rfl g4;replace g5:=mv ⟨b,o+j2*8+5,none⟩ _ rfl g5;replace g6:=mv ⟨b,o+j2*8+6,none⟩ _ rfl g6;replace g7:=mv ⟨b,o+j2*8+7,none⟩ _ rfl g7;clear mv hb;refine Zy Z 14 ?_;refine Zr [0,1,2,3,4,5,6,7,8,9] 4 ?_ h6;refine Yr ?_;clear f0 f1 f2 f3 f4 f5 f6 f7 g0 g1 g2 g3 g4 g5 g6 g7;obtain⟨u0,bb⟩:∃u,u=D.drew:=⟨_,rfl⟩;have J:u0.heap.size=Z:=by rw[bb,EZ.h];rfl
 have b0:Below Z D u0:=bb▸(aa _ _).drew;rw[<-bb];clear bb;refine Zf [10,11] 3 ?_;refine Zo (fun K hK=>?_) ?_
 ·go_simp
  refine Yo hK (iV (aa _ _) (bu J.symm) _) ?_;refine Zf [11] 2 ?_;refine Zo (fun K hK=>?_) ?_
  ·go_simp
   refine Yo hK (iV (aa _ _) (by rw[cw,J];omega) _) ?_;obtain⟨O,I⟩:∃O,O=(u0.alloc (.cells ji 40)).alloc (.cells ji 40):=⟨_,rfl⟩;have a5:(u0.alloc (.cells ji 40)).heap.size=Z+1:=by rw[cw,J]
   have ZA:aE O Z 40 ji:=I▸J▸(aE.new u0 _ _:aE (u0.alloc (.cells ji 40)) u0.heap.size 40 ji).below (au (aa _ _) _);have ZB:aE O (Z+1) 40 ji:=I▸a5▸aE.new _ _ _;have b2:Below Z D O:=I▸(b0.alloc ae _).alloc ae _;rw[show(u0.alloc (.cells #[Iz 0,Iz 0,Iz 0,Iz 0,Iz 0,Iz 0,Iz 0,Iz 0] 40)).alloc (.cells #[Iz 0,Iz 0,Iz 0,Iz 0,Iz 0,Iz 0,Iz 0,Iz 0] 40)=O from I.symm];obtain⟨ay,a0,hL⟩:=fY ZA ZB b2;have a6:Z<=Z:=ae;have a8:Z<=Z+1:=ae;have ba:(Z:Nat)≠Z+1:=ae;have YA:aE O (Z) 40 ji:=by first|exact ay|exact a0
   have YB:aE O (Z+1) 40 ji:=by first|exact ay|exact a0
   clear I a5 ZA ZB b2 b0 J ay a0;have wa:=bO (us:=[Iz 3,Iz b1,Iz (ln:Int),Iz a3,Iz a4,Iz b5,Iz b6,Iz a7]) YA rfl;have ax:=qH (us:=[Iz 3,Iz b1,Iz (ln:Int),Iz a3,Iz a4,Iz b5,Iz b6,Iz a7]) (i:=0) YB (Ne.symm ba);have wb:=bO (us:=[Iz 3,Iz b1,Iz (lf:Int),Iz b3,Iz b4,Iz b5,Iz b6,Iz b7]) ax rfl;have a2:=qH (us:=[Iz 3,Iz b1,Iz (lf:Int),Iz b3,Iz b4,Iz b5,Iz b6,Iz b7]) (i:=0) wa ba;have l1:=bA (us:=[Iz 3,Iz b1,Iz (ln:Int),Iz a3,Iz a4,Iz b5,Iz b6,Iz a7]) (i:=0) a6 (aa Z O);have l2:=bA (us:=[Iz 3,Iz b1,Iz (lf:Int),Iz b3,Iz b4,Iz b5,Iz b6,Iz b7]) (i:=0) a8 (aa Z (fW O (Z) 0 [Iz 3,Iz b1,Iz (ln:Int),Iz a3,Iz a4,Iz b5,Iz b6,Iz a7]));have lt:=hL.h.trans (l1.trans l2);obtain⟨z0,z1,z2,z3,z4,z5,z6,z7⟩:=YA.eight;obtain⟨y0,y1,y2,y3,y4,y5,y6,y7⟩:=YA.GJ;obtain⟨q0,q1,q2,q3,q4,q5,q6,q7⟩:=ax.eight;obtain⟨p0,p1,p2,p3,p4,p5,p6,p7⟩:=ax.GJ;simp only[fW] at wa a2 wb l1 l2 lt q0 q1 q2 q3 q4 q5 q6 q7 p0 p1 p2 p3 p4 p5 p6 p7;obtain⟨hM,hN,hO,hP,hT⟩:=rU a2 wb l1 l2 lt;clear wa a2 wb l1 l2 lt YA YB ax;refine Zf [12] 1 ?_;refine Zo (fun K hK=>?_) ?_
   ·go_simp
    refine Yo hK (hO) ?_;clear z0 z1 z2 z3 z4 z5 z6 z7 y0 y1 y2 y3 y4 y5 y6 y7;refine Zf [13] 0 ?_;refine Zo (fun K hK=>?_) ?_
    ·go_simp
     refine Yo hK (hP) ?_;clear q0 q1 q2 q3 q4 q5 q6 q7 p0 p1 p2 p3 p4 p5 p6 p7;refine Ze ?_;exact hQ (ao ⟨hM,hN,a6,a8,hT⟩)
    exact aQ
   exact aQ
  exact aQ
 refine Zo (fun K hK=>?_) ?_
 ·go_simp
  refine Yo hK (iV (aa _ _) (bu J.symm) _) ?_;refine Zf [10] 2 ?_;refine Zo (fun K hK=>?_) ?_
  ·go_simp
   refine Yo hK (iV (aa _ _) (by rw[cw,J];omega) _) ?_;obtain⟨O,I⟩:∃O,O=(u0.alloc (.cells ji 40)).alloc (.cells ji 40):=⟨_,rfl⟩;have a5:(u0.alloc (.cells ji 40)).heap.size=Z+1:=by rw[cw,J]
   have ZA:aE O Z 40 ji:=I▸J▸(aE.new u0 _ _:aE (u0.alloc (.cells ji 40)) u0.heap.size 40 ji).below (au (aa _ _) _);have ZB:aE O (Z+1) 40 ji:=I▸a5▸aE.new _ _ _;have b2:Below Z D O:=I▸(b0.alloc ae _).alloc ae _;rw[show(u0.alloc (.cells #[Iz 0,Iz 0,Iz 0,Iz 0,Iz 0,Iz 0,Iz 0,Iz 0] 40)).alloc (.cells #[Iz 0,Iz 0,Iz 0,Iz 0,Iz 0,Iz 0,Iz 0,Iz 0] 40)=O from I.symm];obtain⟨ay,a0,hL⟩:=fY ZA ZB b2;have a6:Z<=Z+1:=ae;have a8:Z<=Z:=ae;have ba:(Z+1:Nat)≠Z:=ae;have YA:aE O (Z+1) 40 ji:=by first|exact ay|exact a0
   have YB:aE O (Z) 40 ji:=by first|exact ay|exact a0
   clear I a5 ZA ZB b2 b0 J ay a0;have wa:=bO (us:=[Iz 3,Iz b1,Iz (ln:Int),Iz a3,Iz a4,Iz b5,Iz b6,Iz a7]) YA rfl;have ax:=qH (us:=[Iz 3,Iz b1,Iz (ln:Int),Iz a3,Iz a4,Iz b5,Iz b6,Iz a7]) (i:=0) YB (Ne.symm ba);have wb:=bO (us:=[Iz 3,Iz b1,Iz (lf:Int),Iz b3,Iz b4,Iz b5,Iz b6,Iz b7]) ax rfl;have a2:=qH (us:=[Iz 3,Iz b1,Iz (lf:Int),Iz b3,Iz b4,Iz b5,Iz b6,Iz b7]) (i:=0) wa ba;have l1:=bA (us:=[Iz 3,Iz b1,Iz (ln:Int),Iz a3,Iz a4,Iz b5,Iz b6,Iz a7]) (i:=0) a6 (aa Z O);have l2:=bA (us:=[Iz 3,Iz b1,Iz (lf:Int),Iz b3,Iz b4,Iz b5,Iz b6,Iz b7]) (i:=0) a8 (aa Z (fW O (Z+1) 0 [Iz 3,Iz b1,Iz (ln:Int),Iz a3,Iz a4,Iz b5,Iz b6,Iz a7]));have lt:=hL.h.trans (l1.trans l2);obtain⟨z0,z1,z2,z3,z4,z5,z6,z7⟩:=YA.eight;obtain⟨y0,y1,y2,y3,y4,y5,y6,y7⟩:=YA.GJ;obtain⟨q0,q1,q2,q3,q4,q5,q6,q7⟩:=ax.eight;obtain⟨p0,p1,p2,p3,p4,p5,p6,p7⟩:=ax.GJ;simp only[fW] at wa a2 wb l1 l2 lt q0 q1 q2 q3 q4 q5 q6 q7 p0 p1 p2 p3 p4 p5 p6 p7;obtain⟨hM,hN,hO,hP,hT⟩:=rU a2 wb l1 l2 lt;clear wa a2 wb l1 l2 lt YA YB ax;refine Zf [12] 1 ?_;refine Zo (fun K hK=>?_) ?_
   ·go_simp
    refine Yo hK (hO) ?_;clear z0 z1 z2 z3 z4 z5 z6 z7 y0 y1 y2 y3 y4 y5 y6 y7;refine Zf [13] 0 ?_;refine Zo (fun K hK=>?_) ?_
    ·go_simp
     refine Yo hK (hP) ?_;clear q0 q1 q2 q3 q4 q5 q6 q7 p0 p1 p2 p3 p4 p5 p6 p7;refine Ze ?_;exact hQ (ao ⟨hM,hN,a6,a8,hT⟩)
    exact aQ
   exact aQ
  exact aQ
 exact aQ
end Go.Proofs.YtbaaheidifacaaaGreat
