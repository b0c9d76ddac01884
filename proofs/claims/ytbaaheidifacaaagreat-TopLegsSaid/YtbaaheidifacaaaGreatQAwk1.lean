import Derived.Test.YtbaaheidifacaaaGreatQEngA
import Derived.Handy
set_option linter.defProp false
set_option linter.unusedVariables false
set_option linter.unusedSimpArgs false
set_option maxRecDepth 100000
set_option maxHeartbeats 12800000
namespace Go.Proofs.YtbaaheidifacaaaGreat
variable {G:vJ} {P:PD} {l:List UInt8} {n:Nat} {tag:Nat→Nat} {x:N1}
open Go.RowKit
theorem MO (ru:Int) (hr:1<=ru/\ru<=3) (w:World):Wz 26 #[Iz ru] w fun e w'=> ∃ma mc sa sc,e= .returned ((gV ru).val ma mc sa sc)/\iZ w' (gV ru) ma sa/\(∀q,qP ma q\/qP sa q->w.heap.size<=q)/\Bz w w':=by
 go_enter Tryz.func26,Tryz.ntmps26
 go_wp2_with fail
 go_returns
 refine⟨some ⟨w.heap.size+1,0,none⟩,3,some ⟨w.heap.size+1+1,0,none⟩,3,rfl,⟨?_,?_,Gu hr⟩,?_,au (au (au (aa _ _) _) _) _⟩
 ·intro _
  refine⟨_,_,rfl,bT,fun k v hv=>?_⟩;simp only[ec];have D:=(aE.new (w.alloc (.cells #[.string {data:=#[67,76]}, .slice (some ⟨w.heap.size+1,0,none⟩) 3 3,Iz 5,Iz 0,Iz 1000,Iz 200,Iz ru,Iz 4,Iz 2,Iz 40, .slice (some ⟨w.heap.size+1+1,0,none⟩) 3 3] 25)) #[Iz 320,Iz 321,Iz 323] 3).below (au (aa _ _) (.cells #[Iz 500,Iz 505,Iz 490] 2));simp only[cw] at D;have hc:=D.cell k;rw[show([Iz 320,Iz 321,Iz 323]:List Value).toArray[k]?=([Iz 320,Iz 321,Iz 323]:List Value)[k]? from bT] at hc;exact hc.trans hv
 ·intro _
  refine⟨_,_,rfl,bT,fun k v hv=>?_⟩;simp only[ec];have D:=aE.new ((w.alloc (.cells #[.string {data:=#[67,76]}, .slice (some ⟨w.heap.size+1,0,none⟩) 3 3,Iz 5,Iz 0,Iz 1000,Iz 200,Iz ru,Iz 4,Iz 2,Iz 40, .slice (some ⟨w.heap.size+1+1,0,none⟩) 3 3] 25)).alloc (.cells #[Iz 320,Iz 321,Iz 323] 3)) #[Iz 500,Iz 505,Iz 490] 2;simp only[cw] at D;have hc:=D.cell k;rw[show([Iz 500,Iz 505,Iz 490]:List Value).toArray[k]?=([Iz 500,Iz 505,Iz 490]:List Value)[k]? from bT] at hc;exact hc.trans hv
 ·rintro q (⟨o,h⟩|⟨o,h⟩)
  ·injection h with h;injection h with h;omega
  ·injection h with h;injection h with h;omega
theorem Ds (id inst side ag aw:Int) (w:World) (hr:dx ⟨1,id,inst,side,ag,aw,0,1,[]⟩=0):
  Wz 50 #[Iz id,Iz inst,Iz side,Iz ag,Iz aw] w (tN w (oL ⟨1,id,inst,side,ag,aw,0,1,[]⟩)):=by
 have D:=MN ⟨1,id,inst,side,ag,aw,0,1,[]⟩ bT w;rw[hr] at D;obtain⟨L,J⟩:=Zn (oL ⟨1,id,inst,side,ag,aw,0,1,[]⟩);rw[<-J] at D⊢
 change Wz _ #[.agg #[Iz 1,Iz id,Iz inst,Iz side,Iz ag,Iz aw,Iz 0,Iz 1, .string (str [])]] w _ at D
 have I:=ao D;clear D J hr
 go_enter Tryz.func50,Tryz.ntmps50
 go_wp2_with fail;refine I.mono ?_;rintro e w1⟨A,c,rfl,O,h2,h3,h4,h5⟩;go_wp2_with fail;go_ret;exact⟨A,c,rfl,O,h2,h3,h4,h5⟩
theorem yW {w w':World} {e:Ending} (h:tN w l e w') (hn:l.length=n):
  ∃A c,e= .returned (.slice A n c)/\w'.ownsRow w.heap.size 5 1 (.slice A n c) n (ij l)/\Cells w' A (ij l)/\n<=c/\c<=maxLen/\Bz w w':=by
 subst hn;exact h
structure yf (w0 v:World) (d ge:Nat) (P:PD) (G:vJ) (n:Nat) (Kg:List (Nat×Array Value)) (x:N1) (tag:Nat→Nat):Prop where
 en:kP v d ge P G (kN P G.m.S) x tag
 ln:x.ln=n
 k:x.k=n
 dl:x.dl.length=44*n
 an:∀a∈Kg,aE v a.1 104 a.2∧tag a.1=0
 b:Bz w0 v
 hd:w0.heap.size≤d
theorem yf.below {w0 v v':World} {d ge:Nat} {Kg:List (Nat×Array Value)} (h:yf w0 v d ge P G n Kg x tag) (D:Bz v v'):yf w0 v' d ge P G n Kg x (mL tag v.heap.size fun _=>0):=
 ⟨h.en.below D,h.ln,h.k,h.dl,fun a ha=>⟨(h.an a ha).1.below D,by rw[fD (h.an a ha).1.lt];exact(h.an a ha).2⟩,dW h.b D,h.hd⟩
theorem yf.Kg {w0 v:World} {d ge:Nat} {Kg:List (Nat×Array Value)} (h:yf w0 v d ge P G n Kg x tag) (cs:Array Value):yf w0 (v.alloc (.cells cs 104)) d ge P G n ((v.heap.size,cs)::Kg) x (mL tag v.heap.size fun _=>0):=by
 have D:=h.below (au (aa _ _) (.cells cs 104));refine⟨D.en,D.ln,D.k,D.dl,fun a ha=>?_,D.b,D.hd⟩;rcases a9.1 ha with rfl|ha
 ·exact⟨aE.new _ _ _,lG (af _)⟩
 ·exact D.an a ha
def Yq (w0 p:World) (d ge:Nat) (P:PD) (G:vJ) (n:Nat) (Kg:List (Nat×Array Value)) (s:Nat) (b:List UInt8) (e:Ending) (q:World):Prop:=
 ∃A1 c1 n2 A2 c2 x' tag',e= .returned (.agg #[.slice A1 (yb P G s b).2.length c1, .slice A2 n2 c2])∧n2=wj (kN P G.m.S) (kN P (yb P G s b).1.m.S)∧sO 0 q A1 c1 (yb P G s b).2∧yf w0 q d ge P (yb P G s b).1 (n+1) Kg x' tag'
theorem MQ (w0 p:World) (d ge:Nat) (P:PD) (G:vJ) (n:Nat) (Kg:List (Nat×Array Value)) (x:N1) (tag:Nat->Nat) (s:Nat) (A:Option Addr) (c:Nat) (b:List UInt8) (h:yf w0 p d ge P G n Kg x tag) (hs:s<8) (J:b.length=37) (hc:37<=c) (O:c<=maxLen) (hA:Cells p A (ij b))
  (ax:∀q,qP A q->q<p.heap.size->tag q=0) (ay:G.m.un<1000000) (a0:G.on+3+1503*(gw s b).1.aw.toNat<1000000) (hn:n<=5) (a5:(gw (s:Int) b).2=0):
  Wz 49 #[Pz ge,Iz (s:Int), .slice A 37 c] p (Yq w0 p d ge P G n Kg s b):=by
 refine(Ve d ge P G _ x tag s A 37 c b p h.en (look_ok h.en.gt.oO.st) hs J ae hc (by unfold maxLen at O;omega) hA ax ay a0 (by rw[h.ln];omega) (by rw[h.k];omega) (by rw[h.dl];omega) a5 (by intro e;rw[e] at J;cases J)).mono ?_;rintro e q⟨A1,c1,n2,A2,c2,x',I,rfl,h1,h2,h3,h4,D,h6,h7,h8⟩;have a6:Below w0.heap.size p q:=by
  refine⟨D.os,D.tape,D.output,D.size,fun j hj=>D.block j (aA hj h.b.size) fun hf=>?_⟩;have:=h.en.lo j hf (aA hj h.b.size);have:=h.hd;omega
 refine⟨A1,c1,n2,A2,c2,x',I,rfl,h1,h2,⟨h3,by rw[h6,h.ln],by rw[h7,h.k],?_,fun a ha=>?_,h.b.trans a6,h.hd⟩⟩
 ·rw[h8,aC,nV,h.dl,bI,J];omega
 ·obtain⟨a1,a2⟩:=h.an a ha
  exact⟨a1.lv D (by rw[a2];omega),by rw[h4 a.1 a1.lt];exact a2⟩
theorem Qw (w:World):Wz 20 #[] w fun e w'=>e= .returned (.bool true)/\Bz w w':=by
 go_enter Tryz.func20,Tryz.ntmps20
 go_wp2_with fail;refine(MO 2 ⟨by omega,by omega⟩ w).mono ?_;rintro e w1⟨ma,mc,sa,sc,rfl,hp,b8,b1⟩;obtain⟨P,eP⟩:=Zn tq;rw[show gV 2=P from eP.symm] at hp⊢;obtain⟨HP,cH,b9,a8⟩:=mh hp b8 b1 eP;clear hp b8 b1 eP;simp only[PD.val]
 go_upto_region 2 with(fail)
 obtain⟨D,bf⟩:=Zn (w1.alloc (.cells (P.cells ma mc sa sc) 25));obtain⟨g,eg⟩:=Zn w1.heap.size;have D2:=Zq bf eg;have B2:=Zw bf;unfold PD.cells at bf;rw[<-bf,<-eg];have z0:∀u,Below D.heap.size D.drew u->Cz u g 0 (.string (str P.code)):=fun u hu=>Yb hu D2.lt (D2.cell 0);have z1:∀u,Below D.heap.size D.drew u->Cz u g 1 (.slice ma P.E.length mc):=fun u hu=>Yb hu D2.lt (D2.cell 1);have z2:∀u,Below D.heap.size D.drew u->Cz u g 2 (Iz P.tick):=fun u hu=>Yb hu D2.lt (D2.cell 2);have z3:∀u,Below D.heap.size D.drew u->Cz u g 3 (Iz P.low):=fun u hu=>Yb hu D2.lt (D2.cell 3);have z4:∀u,Below D.heap.size D.drew u->Cz u g 4 (Iz P.high):=fun u hu=>Yb hu D2.lt (D2.cell 4);have z5:∀u,Below D.heap.size D.drew u->Cz u g 5 (Iz P.wide):=fun u hu=>Yb hu D2.lt (D2.cell 5);have z6:∀u,Below D.heap.size D.drew u->Cz u g 6 (Iz P.rule):=fun u hu=>Yb hu D2.lt (D2.cell 6);have z7:∀u,Below D.heap.size D.drew u->Cz u g 7 (Iz P.top):=fun u hu=>Yb hu D2.lt (D2.cell 7);have z8:∀u,Below D.heap.size D.drew u->Cz u g 8 (Iz P.least):=fun u hu=>Yb hu D2.lt (D2.cell 8);have z9:∀u,Below D.heap.size D.drew u->Cz u g 9 (Iz P.part):=fun u hu=>Yb hu D2.lt (D2.cell 9);have cQ:∀u,Below D.heap.size D.drew u->Cz u g 10 (.slice sa P.settle.length sc):=fun u hu=>Yb hu D2.lt (D2.cell 10);obtain⟨cS,bR,bU⟩:=fY D2 (dW b9.h B2) (HP.h.below B2);clear bf D2 B2 eg;refine Zb D.heap.size 99999 [1,2] [0,1,2,3,4,6,5,7] ?_;refine Yt ?_;clear z0 z1 z2 z3 z4 z5 z6 z7 z8 z9 cQ;refine Ym fun K hK=>?_;refine(Va D.drew).mono ?_;rintro e w3⟨d,rfl,hd,D3,b3⟩;refine Yo hK (b3) ?_;have B3:Bz D w3:=(aS (aa _ _)).trans b3;refine Yt ?_;refine Ym fun K hK=>?_;refine(Qr d P ma mc sa sc d w3 (bU.h.below B3) D3 (af _) (fun q hq=>by have:=bU.h.Xc q hq;have:D.heap.size<=d:=hd;omega)).mono ?_;rintro e w4⟨ge,x,tag,rfl,E4,cd,hk,cf,ht,L4⟩;refine Yo hK (L4.below (fun k hk=>by have e':k=d:=hk;have:D.heap.size<=d:=hd;omega) B3.size) ?_;refine Yt ?_;refine aT ?_;have bV:Bz w w3:=dW bR.h B3;have ck:w.heap.size<=d:=by have:D.heap.size<=d:=hd;have:=bR.h.size;omega
 have cl:Bz w w4:=bV.trans (L4.below (fun k hk=>by have e':k=d:=hk;omega) bV.size);have cT:∃G0,G0=vJ.new P:=⟨_,rfl⟩;obtain⟨G0,b0⟩:=cT;have cm:yf w w4 d ge P G0 0 [] x tag:=⟨by rw[b0];exact E4,cd,hk,by rw[cf];rfl,fun a ha=>by simp at ha,cl,ck⟩;have S0:=ao cm;have bp:Hid (G0=vJ.new tq):=ao (by rw[b0,a8.h]);clear E4 cd hk cf ht L4 cl bV B3 b3 D3 hd ck cm b0 bR bU cS HP cH b9
 go_upto_region 5 with(fail)
 go_wp2_with fail;refine(Ds 1 3 2 5 4 w4 (by kernel_rfl)).mono ?_;intro e p0 h5;obtain⟨A0,c0,rfl,I,a5,a6,a7,b5⟩:=yW (n:=37) h5 (by kernel_rfl);clear h5;go_wp2_with fail;refine(MQ w p0 d ge P G0 0 [] x _ 0 A0 c0 (oL ⟨1,1,3,2,5,4,0,1,[]⟩) (S0.h.below b5) (by omega) (by kernel_rfl) a6 a7 a5 (fun q hq _=>lG (pj I hq).1) (by rw[bp.h];have:=yV.1;omega)
  (by rw[bp.h];have h1:=yV.2.2.2.1;have h3:(gw ((0:Nat):Int) (oL ⟨1,1,3,2,5,4,0,1,[]⟩)).1.aw=4:=Hd.1;rw[h3];omega) (by omega) Dt.1).mono ?_
 rintro e q0⟨F0,f0,m0,H0,h0,x1,cX,rfl,ba,ax,S1⟩;obtain⟨G1,eG⟩:=Zn ((yb P G0 ((0:Nat):Int) (oL ⟨1,1,3,2,5,4,0,1,[]⟩)).1);have cn:G1=Tx.1:=by rw[eG,a8.h,bp.h];rfl
 have hlen:(yb P G0 ((0:Nat):Int) (oL ⟨1,1,3,2,5,4,0,1,[]⟩)).2.length=1:=by rw[a8.h,bp.h];exact Ty
 rw[<-eG] at S1;rw[hlen];obtain⟨bt,bE⟩:=dF (S1.Kg #[.slice F0 1 f0, .slice H0 m0 h0]) cn;clear S1 ax hlen cn eG ba I a5 a6 a7 b5 S0
 go_upto_region 6 with(fail)
 obtain⟨v1,J⟩:=Zn (q0.alloc (.cells #[.slice F0 1 f0, .slice H0 m0 h0] 104));refine jN J ?_;rw[<-J] at bt;obtain⟨a1,ay⟩:=Zn q0.heap.size;obtain⟨dS,bh⟩:=Zn (mL cX q0.heap.size fun _=>0);rw[<-bh,<-ay] at bt;rw[<-ay];clear J ay bh;go_wp2_with fail;refine(Ds 2 1 2 500 6 v1 (by kernel_rfl)).mono ?_;intro e p1 h5;obtain⟨A1,c1,rfl,I,a5,a6,a7,b5⟩:=yW (n:=37) h5 (by kernel_rfl);clear h5;go_wp2_with fail;refine(MQ w p1 d ge P G1 1 _ x1 _ 1 A1 c1 (oL ⟨1,2,1,2,500,6,0,1,[]⟩) (bt.h.below b5) (by omega) (by kernel_rfl) a6 a7 a5 (fun q hq _=>lG (pj I hq).1) (by rw[bE.h];have:=yV.2.1;omega)
  (by rw[bE.h];have h1:=yV.2.2.2.2.1;have h3:(gw ((1:Nat):Int) (oL ⟨1,2,1,2,500,6,0,1,[]⟩)).1.aw=6:=Hd.2.1;rw[h3];omega) (by omega) Dt.2.1).mono ?_
 rintro e q1⟨F1,f1,m1,H1,h1,x2,dc,rfl,ba,ax,S2⟩;obtain⟨G2,eG⟩:=Zn ((yb P G1 ((1:Nat):Int) (oL ⟨1,2,1,2,500,6,0,1,[]⟩)).1);have ct:G2=Hb.1:=by rw[eG,a8.h,bE.h];rfl
 have hlen:(yb P G1 ((1:Nat):Int) (oL ⟨1,2,1,2,500,6,0,1,[]⟩)).2.length=1:=by rw[a8.h,bE.h];exact Tz
 rw[<-eG] at S2;rw[hlen];obtain⟨bH,bQ⟩:=dF (S2.Kg #[.slice F1 1 f1, .slice H1 m1 h1]) ct;clear S2 ax hlen ct eG ba I a5 a6 a7 b5 bt
 go_upto_region 7 with(fail)
 obtain⟨v2,J⟩:=Zn (q1.alloc (.cells #[.slice F1 1 f1, .slice H1 m1 h1] 104));refine jN J ?_;rw[<-J] at bH;obtain⟨a2,ay⟩:=Zn q1.heap.size;obtain⟨dT,bh⟩:=Zn (mL dc q1.heap.size fun _=>0);rw[<-bh,<-ay] at bH;rw[<-ay];clear J ay bh;go_wp2_with fail;refine(Ds 3 0 1 505 9 v2 (by kernel_rfl)).mono ?_;intro e p2 h5;obtain⟨A2,c2,rfl,I,a5,a6,a7,b5⟩:=yW (n:=37) h5 (by kernel_rfl);clear h5;go_wp2_with fail;refine(MQ w p2 d ge P G2 2 _ x2 _ 2 A2 c2 (oL ⟨1,3,0,1,505,9,0,1,[]⟩) (bH.h.below b5) (by omega) (by kernel_rfl) a6 a7 a5 (fun q hq _=>lG (pj I hq).1) (by rw[bQ.h];have:=yV.2.2.1;omega)
  (by rw[bQ.h];have h1:=yV.2.2.2.2.2;have h3:(gw ((2:Nat):Int) (oL ⟨1,3,0,1,505,9,0,1,[]⟩)).1.aw=9:=Hd.2.2;rw[h3];omega) (by omega) Dt.2.2).mono ?_
 rintro e q2⟨F2,f2,m2,H2,h2,x3,d2,rfl,ba,ax,S3⟩;have b2:yb P G2 ((2:Nat):Int) (oL ⟨1,3,0,1,505,9,0,1,[]⟩)=Hc:=by rw[a8.h,bQ.h];rfl
 rw[b2] at ba ax;rw[b2,J6];have d3:0<m2:=by
  have:=Qv;rw[ba,a8.h,bQ.h];exact this
 obtain⟨bb,HO⟩:=dF (S3.Kg #[.slice F2 6 f2, .slice H2 m2 h2]) ax;clear S3 ax b2 ba I a5 a6 a7 b5 bH
 go_upto_region 8 with(fail)
 obtain⟨v3,J⟩:=Zn (q2.alloc (.cells #[.slice F2 6 f2, .slice H2 m2 h2] 104));refine jN J ?_;rw[<-J] at bb;have cv:=Zw J;obtain⟨a3,ay⟩:=Zn q2.heap.size;rw[<-ay] at bb;rw[<-ay];have bc:Cells v3 F2 (qJ Hc.2):=(dP.O HO.h).below cv;have b7:(qJ Hc.2).length=54:=by rw[GM,J6]
 obtain⟨b,o,dp,d4,cF⟩:=bc (by intro e;rw[e] at b7;cases b7);subst dp;have a0:∀j v,j<9->(sN.cells ⟨2,⟨3,3,0,1,505,4,5,0⟩⟩)[j]?=some v->Cz v3 b (o+(45+j)) v:=fun j v hj hv=>cF _ _ ((ig sN.bG j hj Qs).trans hv);have r0:Cz v3 b (o+46) (Iz 3):=a0 1 _ (by omega) rfl;have r1:Cz v3 b (o+46+1) (Iz 3):=a0 2 _ (by omega) rfl;have r2:Cz v3 b (o+46+2) (Iz 0):=a0 3 _ (by omega) rfl;have r3:Cz v3 b (o+46+3) (Iz 1):=a0 4 _ (by omega) rfl;have r4:Cz v3 b (o+46+4) (Iz 505):=a0 5 _ (by omega) rfl;have r5:Cz v3 b (o+46+5) (Iz 4):=a0 6 _ (by omega) rfl;have r6:Cz v3 b (o+46+6) (Iz 5):=a0 7 _ (by omega) rfl;have r7:Cz v3 b (o+46+7) (Iz 0):=a0 8 _ (by omega) rfl;have s1:Cz v3 a1 0 (.slice F0 1 f0):=(bb.h.an (a1,#[.slice F0 1 f0, .slice H0 m0 h0]) (by simp)).1.cell 0;have s2:Cz v3 a2 0 (.slice F1 1 f1):=(bb.h.an (a2,#[.slice F1 1 f1, .slice H1 m1 h1]) (by simp)).1.cell 0;have s3:Cz v3 a3 0 (.slice (some ⟨b,o,none⟩) 6 f2):=(bb.h.an (a3,#[.slice (some ⟨b,o,none⟩) 6 f2, .slice H2 m2 h2]) (by simp)).1.cell 0;have s4:Cz v3 a3 1 (.slice H2 m2 h2):=(bb.h.an (a3,#[.slice (some ⟨b,o,none⟩) 6 f2, .slice H2 m2 h2]) (by simp)).1.cell 1;have hq:=UR 3 3 0 1 505 4 5 0 3 3 0 1 505 4 5 0 v3;rw[show VW ⟨3,3,0,1,505,4,5,0⟩ ⟨3,3,0,1,505,4,5,0⟩=true from rfl] at hq;clear a0 cF b7 bc HO cv ay J;go_wp2_with fail;go_ret;exact⟨rfl,bb.h.b⟩
end Go.Proofs.YtbaaheidifacaaaGreat
