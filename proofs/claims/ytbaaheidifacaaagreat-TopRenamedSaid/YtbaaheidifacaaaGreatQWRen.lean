import Derived.Test.YtbaaheidifacaaaGreatQRunXC1
import Derived.Test.YtbaaheidifacaaaGreatQArgsT
import Derived.Test.YtbaaheidifacaaaGreatQLawMorC7
import Derived.Test.YtbaaheidifacaaaGreatQAwk1
import Derived.SliceStrings
set_option linter.defProp false
set_option linter.unusedVariables false
set_option linter.unusedSimpArgs false
set_option maxRecDepth 100000
set_option maxHeartbeats 12800000
namespace Go.Proofs.YtbaaheidifacaaaGreat
variable {A:Option Addr} {L:List ir} {P:PD} {a:UInt8} {f:ir→ir} {k n:Nat} {l:List bN} {ky:List UInt8} {r:ir} {w:World}
open Go.RowKit
theorem rL.Y0 {B:Nat} {g:Nat} {C:zt} {Gs R:Nat->Prop} {c:Nat} (h:rL B w g P C Gs R l A c) (D:∀(i:Nat) (y:bN),l[i]?=some y->i<=1000/\wZ P i y):Tl P l:=
 ⟨fun n=>(h.fine n).f,fun n=>(h.fine n).su,D⟩
theorem Qx (D:P.gZ) (l:List bN) (n:Nat) (hn:n<=1000):∀(i:Nat) (y:bN),(js P l n)[i]?=some y->i<=1000/\wZ P i y:=fun i y h=>by
 obtain⟨J,I⟩:=Tk D h;exact⟨ae,I⟩
theorem wZ.run {i:Nat} {c:bN} (h:wZ P i c):c.aw<=12000/\c.ky.length<=9223372036854775807:=⟨cA h.aw,by rw[h.ky];simp⟩
theorem N3 (h:∀(i:Nat) (y:bN),l[i]?=some y->i<=1000/\wZ P i y):∀q∈l,q.aw<=12000/\q.ky.length<=9223372036854775807:=fun q hq=>by
 obtain⟨i,hi,rfl⟩:=kv.1 hq;exact(h i _ (aj hi)).2.run
def qU (f:ir→ir) (k:Nat) (L:List ir):List ir:=(L.take k).map f++L.drop k
theorem Qy (f:ir->ir) (L:List ir):qU f 0 L=L:=by simp[qU]
theorem TB (f:ir->ir) (L:List ir):qU f L.length L=L.map f:=by simp[qU]
theorem Vf (h:L[k]?=some r):(qU f k L)[k]?=some r:=by
 have D:=(az.1 h).1;unfold qU;rw[bK iW];simp only[br,bJ];rw[jH,(ae:k+(k - min k L.length)=k)];exact h
theorem TD (h:L[k]?=some r):(qU f k L).set k (f r)=qU f (k+1) L:=by
 have D:=(az.1 h).1;unfold qU;have e1:(List.map f (L.take k)).length=k:=iW;rw[yX _ _ ae,e1,Vn,bC,h,iB D];rw[show L[k]=r from bW ((aj D).symm.trans h)];simp
structure acV (w:World) (A:Option Addr) (n:Nat):Prop where
 ex:∃l:List (List UInt8),l.length=n∧Cells w A (l.map fun s=>Value.string (str s))
theorem acV.nil (w:World) (A:Option Addr):acV w A 0:=⟨[],rfl,Cells.nil _ _⟩
theorem acV.Wb {x:Addr} {len cap:Nat} {I:List ByteArray} (hl:len<=cap) (hs:I.length=cap) (hc:∀i,i<I.length->w.cell? (x.add i)=some (.string (I.getD i ByteArray.empty))):acV w (some x) len:=by
 refine⟨(I.take len).map fun s=>s.data.toList,iW,fun J=>?_⟩;have D:0<I.length:=by
  rcases jF I.length with O|O
  ·exact absurd (by simp[aP O]) J
  ·exact O
 obtain⟨b,o,rfl⟩:=Kl (hc 0 D);refine⟨b,o,rfl,kQ w _ (by have:=hc 0 D;rwa [Addr.add_lit] at this),fun k u hu=>?_⟩;simp only[bo,DV,Vg] at hu;obtain⟨s,ax,rfl⟩:=hu;obtain⟨r,hr,rfl⟩:=ax
 split at hr
 ·have hj:=yZ hr
  have h1:=hc k hj;rw[Addr.add_lit] at h1;rw[h1];simp[List.getD,hr,str]
 ·cases hr
theorem acV.below {w':World} (h:acV w A n) (D:Bz w w'):acV w' A n:=by
 obtain⟨l,I,J⟩:=h.ex;exact⟨l,I,J.below D⟩
theorem acV.at_ (h:acV w A n) (O:k<n):∃b o s,A=some ⟨b,o,none⟩/\b<w.heap.size/\w.cell? ⟨b,o+k,none⟩=some (.string (str s)):=by
 obtain⟨l,h1,I⟩:=h.ex;have D:k<l.length:=ae;obtain⟨b,o,rfl,J,hc⟩:=I (by intro e;have:=congrArg List.length e;simp at this;rw[this] at D;simp at D);exact⟨b,o,l[k],rfl,J,hc k _ (by rw[bo,aj D];rfl)⟩
theorem adw {b c x:UInt8} (h:Op.bytesLess [a,b,c] [x,x,x]=false):¬a<x:=by
 intro D;unfold Op.bytesLess at h;simp[D] at h
theorem adA {b c x:UInt8} (h:Op.bytesLess [a,b,c] [x,x,x]=true):a<=x:=by
 unfold Op.bytesLess at h;simp only[MU,decide_eq_true_eq,dv,beq_iff_eq] at h;rcases h with h|⟨h,_⟩
 ·exact UInt8.le_of_lt h
 ·rw[h];exact UInt8.le_refl _
theorem ac9 {l:List UInt8} (h:a.toNat<128):jb (a::l)=(a.toNat,1):=by
 unfold jb Lib.decodeN;simp only[bI,List.getD_cons_zero];simp[h]
theorem adx {b c:UInt8} (ha:32<=a.toNat/\a.toNat<=126) (D:32<=b.toNat/\b.toNat<=126) (hc:32<=c.toNat/\c.toNat<=126):Cd [a,b,c]=true:=by
 have e:jc [a,b,c]=[(a.toNat,[a]),(b.toNat,[b]),(c.toNat,[c])]:=by
  rw[zm bT,ac9 ae];simp only[nB,QA,List.drop_succ_cons,List.drop_zero];rw[zm bT,ac9 ae];simp only[nB,QA,List.drop_succ_cons,List.drop_zero];rw[zm bT,ac9 ae];simp only[nB,QA,List.drop_succ_cons,List.drop_zero];rfl
 unfold Cd;rw[e];simp[E7];omega
structure adq (d:Int) (cl D:List bN) (k:Nat):Prop where
 len:D.length=k
 at_:∀(i:Nat) (y y':bN),cl[i]?=some y→D[i]?=some y'→∃ky,y'=ac2 d ky y∧(ky=[]∨Cd ky=true)
theorem adq.nil (d:Int) (D:List bN):adq d D [] 0:=⟨rfl,fun i y y' _ h=>by simp at h⟩
theorem adq.add {d:Int} {J D:List bN} (h:adq d J D k) {y:bN} (hy:J[k]?=some y) (hl:ky=[]\/Cd ky=true):adq d J (D++[ac2 d ky y]) (k+1):=by
 refine⟨by rw[aC,h.len];rfl,fun i a a' h1 I=>?_⟩
 by_cases hi:i<D.length
 ·rw[bX hi] at I
  exact h.at_ i a a' h1 I
 ·have O:i=k:=by
   have:=(az.1 I).1;rw[aC,List.length_singleton,h.len] at this;have:=h.len;omega
  subst O;rw[bK ae,h.len,Vn] at I;obtain rfl:=bW I;obtain rfl:=bW (hy.symm.trans h1);exact⟨ky,rfl,hl⟩
theorem ac6 (p:kU) (A:Option Addr) (n c:Nat) (bQ:Int) (TA:Option Addr) (tn tc:Nat) (w:World) (h0:p.Ok w) (h1:Commands w A n c) (h2:(Lit.int .i64 bQ).wf=true) (h3:acV w TA tn):
  Wz 8 #[p.val, .slice A n c,Iz bQ, .slice TA tn tc] w fun e w'=>e= .returned (.bool true)/\Bz w w':=by
 replace h2:=V9 h2;have HT:=ao h3;clear h3;obtain⟨hle,bR,l,rfl,hA,a0⟩:=h1;have hV:l.length<=9223372036854775807:=by unfold maxLen at bR;omega
 have a7:=fun u=>Qh p u h0;obtain⟨P,eP⟩:∃P,P=p.prod:=⟨_,rfl⟩;rw[<-eP] at a7;obtain⟨a8,EP,HA,hP,hQ⟩:=rU a7 eP hA a0 (And.intro hle bR);clear a7 eP hA a0 hle bR h0;obtain⟨pc,eV,mn,eW,eY,eZ,e0,e3,e4,e5,e6,e7,e9,fa,ff⟩:=p;simp only[kU.val] at a8⊢;obtain⟨w0,cv⟩:∃v,v=w.alloc (.cells #[.string pc, .slice eV mn eW,Iz eY,Iz eZ,Iz e0,Iz e3,Iz e4,Iz e5,Iz e6,Iz e7, .slice e9 fa ff] 25):=⟨_,rfl⟩;obtain⟨gx,ej⟩:∃v,v=w.heap.size:=⟨_,rfl⟩;have D0:=Zq cv ej;have B0:=Zw cv;have k0:Cz w0 gx 0 (.string pc):=D0.cell 0;have k1:Cz w0 gx 1 (.slice eV mn eW):=D0.cell 1;have k2:Cz w0 gx 2 (Iz eY):=D0.cell 2;have k3:Cz w0 gx 3 (Iz eZ):=D0.cell 3;have k4:Cz w0 gx 4 (Iz e0):=D0.cell 4;have k5:Cz w0 gx 5 (Iz e3):=D0.cell 5;have k6:Cz w0 gx 6 (Iz e4):=D0.cell 6;have k7:Cz w0 gx 7 (Iz e5):=D0.cell 7;have k8:Cz w0 gx 8 (Iz e6):=D0.cell 8;have k9:Cz w0 gx 9 (Iz e7):=D0.cell 9;have g9:Cz w0 gx 10 (.slice e9 fa ff):=D0.cell 10;have cF:=ao B0;clear D0 B0
 go_enter Tryz.func8,Tryz.ntmps8
 go_upto_region 1 with(fail)
 rw[<-cv,<-ej];clear cv ej;go_wp2_with fail;refine(a8 w0).mono ?_;clear k0 k1 k2 k3 k4 k5 k6 k7 k8 k9 g9;rintro e w1⟨ma,mc,sa,sc,rfl,cH,d3,b1⟩;have HR:=ao cH.right;simp only[PD.val]
 go_upto_region 2 with(fail)
 obtain⟨w2,bU⟩:∃v,v=w1.alloc (.cells (P.cells ma mc sa sc) 25):=⟨_,rfl⟩;obtain⟨J,bV⟩:∃v,v=w1.heap.size:=⟨_,rfl⟩;have D2:fM w2 J P ma mc sa sc:=bU▸bV▸fM.new _ _ _ _ _ _;have B2:=Zw bU;unfold PD.cells at bU;rw[<-bU,<-bV];obtain⟨fi,ek,cQ⟩:=fY D2 (cH.below B2) (dW (dW cF b1) B2);have hW:Hid (∀q,qP ma q\/qP sa q->w.heap.size<=q/\q<J):=ao fun q hq=>⟨jE (d3 q hq) cF.h.size,bV▸cH.Xc q hq⟩;have hT:Hid (w.heap.size<=J):=ao (bV▸aF cF.size b1.size);clear D2 B2 bU bV cH d3 b1 cF a8;have fk:=ao (HT.below cQ);have el:=cW bQ 0 1073741824 ae;obtain⟨kq,eo⟩:∃v,v=within bQ 0 1073741824:=⟨_,rfl⟩;rw[<-eo] at el;obtain⟨fq,ep⟩:=dF eo el;clear eo el HT;go_wp2_with fail;refine(dg bQ 0 1073741824 _ ae ae ae).mono ?_;rw[<-fq.h];rintro e wq⟨rfl,rfl⟩;clear h2 fq;have ax:=fi.h;have z0:Cz w2 J 0 (.string (str P.code)):=ax.cell 0;have z1:Cz w2 J 1 (.slice ma P.E.length mc):=ax.cell 1;have z2:Cz w2 J 2 (Iz P.tick):=ax.cell 2;have z3:Cz w2 J 3 (Iz P.low):=ax.cell 3;have z4:Cz w2 J 4 (Iz P.high):=ax.cell 4;have z5:Cz w2 J 5 (Iz P.wide):=ax.cell 5;have z6:Cz w2 J 6 (Iz P.rule):=ax.cell 6;have z7:Cz w2 J 7 (Iz P.top):=ax.cell 7;have z8:Cz w2 J 8 (Iz P.least):=ax.cell 8;have z9:Cz w2 J 9 (Iz P.part):=ax.cell 9;have b0:Cz w2 J 10 (.slice sa P.settle.length sc):=ax.cell 10;go_wp2_with fail;refine(Te P ma mc sa sc A l.length c l 50 w2 ek rfl (HA.below cQ) ae).mono ?_;clear z0 z1 z2 z3 z4 z5 z6 z7 z8 z9 b0;rintro e v7⟨Ac,cc,rfl,bc,b7⟩;obtain⟨cl,cS⟩:∃x,x=js P l 50:=⟨_,rfl⟩;rw[<-cS] at bc⊢;have er:cl.length<=50:=cS▸MA P l 50;have fx:∀(i:Nat) (y:bN),cl[i]?=some y->i<=1000/\wZ P i y:=cS▸Qx HR l 50 ae;obtain⟨M,eM⟩:∃x,x=cl.length:=⟨_,rfl⟩;rw[<-eM] at bc er⊢;obtain⟨b2,cT,EM,fz,d4,d5,hh⟩:=yY (dP.O bc) fx eM (ek.below b7) (ax.below b7) (dW cQ b7) (fk.below b7);clear bc fx eM b7 ax ek fi cQ fk cS;go_wp2_with fail
 go_loopw [12,13] (fun v i wr=> ∃(k:Nat) (Ad:Option Addr) (cd:Nat) (D:List bN),k<=M/\v= .slice Ad k cd/\i= Iz k/\Hid (adq kq cl D k)/\Hid (∀q∈D,q.aw<=12000/\q.ky.length<=9223372036854775807)/\Hid (wr.ownsRow v7.heap.size 35 9 (.slice Ad k cd) k (lF D))/\Hid (Bz v7 wr)) (fun _ i _=>M - (intOf i).toNat)
 case atStart=>exact⟨0,none,0,[],aB _,rfl,rfl,ao (adq.nil _ _),ao (fun q hq=>by simp at hq),ao (aM _ _ _ _),ao (aa _ _)⟩
 case round=>
  obtain⟨k,Ad,cd,D,hk,rfl,rfl,et,eu,HO,HB⟩:=hrel;obtain⟨wo,rfl⟩:∃wo,wo=wr:=⟨_,rfl⟩
  by_cases a2:k<M
  ·obtain⟨b,o,q,rfl,hb,hq,I⟩:=Mv (b2.below HB) (m:=k) (EM.h▸a2)
   have cX:=(cT k q hq).2;have ew:=cX.aw;have ey:=cX.Y8;have ez:=cX.ky;have fH:=(cT k q hq).1;have b4:∀ky,ky=[]\/Cd ky=true->adq kq cl (D++[ac2 kq ky q]) (k+1):=fun ky hl=>et.add hq hl;obtain⟨q0,q1,q2,q3,q4,q5,q6,q7,q8⟩:=q;obtain rfl:q8=[]:=ez;replace ew:1<=q5/\q5<=12:=ew;replace ey:1<=q1/\(q1<=31\/q1=(k:Int)+1):=ey;obtain⟨ay,ei⟩:∃v,v=q1+kq:=⟨_,rfl⟩;have d6:∀ky,(ac2 kq ky ⟨q0,q1,q2,q3,q4,q5,q6,q7,[]⟩).row=[Iz q0,Iz ay,Iz q2,Iz q3,Iz q4,Iz q5,Iz q6,Iz q7, .string (str ky)]:=fun ky=>by rw[ei];rfl
   have ni:IntKind.i64.wrap (q1+kq)=ay:=by rw[ei];have:=ep.h;exact aN _ ae
   have y0:Cz wo b (o+k*9) (Iz q0):=I 0 _ ae rfl;have y1:Cz wo b (o+k*9+1) (Iz q1):=I 1 _ ae rfl;have y2:Cz wo b (o+k*9+2) (Iz q2):=I 2 _ ae rfl;have y3:Cz wo b (o+k*9+3) (Iz q3):=I 3 _ ae rfl;have y4:Cz wo b (o+k*9+4) (Iz q4):=I 4 _ ae rfl;have y5:Cz wo b (o+k*9+5) (Iz q5):=I 5 _ ae rfl;have y6:Cz wo b (o+k*9+6) (Iz q6):=I 6 _ ae rfl;have y7:Cz wo b (o+k*9+7) (Iz q7):=I 7 _ ae rfl;have y8:Cz wo b (o+k*9+8) (.string (str [])):=I 8 _ ae rfl;have i1:(k:Int)<M:=ae;have fT:∀ky:List UInt8,ky=[]\/ky.length=3->∀y∈D++[ac2 kq ky ⟨q0,q1,q2,q3,q4,q5,q6,q7,[]⟩],y.aw<=12000/\y.ky.length<=9223372036854775807:=fun ky hl y hy=>by
    rcases aJ.1 hy with hy|hy
    ·exact eu y hy
    ·obtain rfl:=List.mem_singleton.1 hy
     refine⟨by show q5<=12000;omega,?_⟩;show ky.length<=_;rcases hl with rfl|hl
     ·simp
     ·omega
   obtain⟨f1,ba,d7,d8,hU⟩:=rU b4 a2 d6 fT fH;clear hq I cX ew ey b4 d6 a2 fH fT ei hb
   go_upto_region 9 with(fail)
   clear y0 y1 y2 y3 y4 y5 y6 y7 y8;obtain⟨va,c0⟩:∃v,v=wo.alloc (.cells (bN.cells ⟨q0,q1,q2,q3,q4,q5,q6,q7,[]⟩) 35):=⟨_,rfl⟩;obtain⟨gy,dc⟩:∃v,v=wo.heap.size:=⟨_,rfl⟩;have Ca:kM va gy ⟨q0,q1,q2,q3,q4,q5,q6,q7,[]⟩:=c0▸dc▸kM.new wo _;have Ba:=Zw c0;refine jN c0 ?_;rw[<-dc];have f2:=ao dc;clear dc c0;have x0:Cz va gy 1 (Iz q1):=Ca.cell 1;have y0:=bN.frozen Ca 1
   go_upto_region 10 with(fail)
   clear x0 y0 ni;obtain⟨vb,dp⟩:∃v,v=va.setCell ⟨gy,1,none⟩ (Iz ay):=⟨_,rfl⟩;have Cb:kM vb gy ⟨q0,ay,q2,q3,q4,q5,q6,q7,[]⟩:=dp▸Ca.WA 1 _ rfl;have Bb:Bz wo vb:=dp▸Ba.setCell (bu f2.symm) _;refine jN dp ?_;clear dp Ca Ba;obtain⟨ho,bE,eA⟩:=fY (hh.below (dW HB Bb)) Cb Bb;clear Cb Bb
   go_cut [99] (fun v wx=> ∃z:Bool,v= .bool z/\Hid (z=true->∃b o s,TA=some ⟨b,o,none⟩/\b<vb.heap.size/\k<tn/\s.length=3/\Cd s=true/\Cz vb b (o+k) (.string (str s)))/\vb=wx)
   case first=>
    by_cases ht:k<tn
    ·obtain⟨bt,ot,s,rfl,eB,dS⟩:=ho.h.at_ ht
     have j1:(k:Int)<tn:=ae;clear ht;go_wp2_with fail
     all_goals go_meet
     all_goals refine⟨_,rfl,ao (fun hz=>?_),rfl⟩
     all_goals first|(cases hz;done)|skip
     rename_i h5 h4 h3 h2 h1 h0;have hB:=of_decide_eq_true hz;have bH:s.length=3:=by rw[tM] at h5;omega
     refine⟨bt,ot,s,rfl,eB,ae,bH,?_,dS⟩
     match s,bH with
     |[a,b',c'],_=>
      rw[wL] at h4 h3;have k1:=adw (by simpa using h4);have k2:=adA h3;have k3:31<(b'.toNat:Int):=h2;have k4:(b'.toNat:Int)<127:=h1;have k5:31<(c'.toNat:Int):=h0;have k6:(c'.toNat:Int)<127:=hB;have k7:32<=a.toNat:=by
       have:¬a.toNat<32:=fun h=>k1 (UInt8.lt_iff_toNat_lt.2 h);omega
      have k8:a.toNat<=126:=UInt8.le_iff_toNat_le.1 k2;exact adx ⟨k7,k8⟩ ⟨ae,ae⟩ ⟨ae,ae⟩
    ·have j1:¬(k:Int)<tn:=ae
     clear ht;go_wp2_with fail;go_meet;exact⟨false,rfl,ao (fun h=>by cases h),rfl⟩
   obtain⟨z,rfl,hz,rfl⟩:=hcut
   cases z with
   |false=>
    obtain⟨ky,a3⟩:∃v:List UInt8,v=[]:=⟨_,rfl⟩;obtain⟨eC,eD⟩:=dF (f1 ky (.inl a3)) (d8 ky (.inl a3));have b5:=d7.h ky;have Cc:kM vb gy ⟨q0,ay,q2,q3,q4,q5,q6,q7,ky⟩:=a3▸bE;have bb:=dW HB eA;have a4:vb.ownsRow v7.heap.size 35 9 (.slice Ad k cd) k (lF D):=bP HO eA
    (try clear a3)
    obtain⟨x0,x1,x2,x3,x4,x5,x6,x7,x8⟩:=Cc.reads;have eE:=ao b5;clear Cc b5
    go_wp2_with (at_builtin
                 refine dO VZ a4 #[Iz q0,Iz ay,Iz q2,Iz q3,Iz q4,Iz q5,Iz q6,Iz q7, .string (str ky)] rfl _ _ rfl rfl rfl rfl (by intro u hu;exact NT ⟨q0,ay,q2,q3,q4,q5,q6,q7,ky⟩ u hu) ae bb.size ?_;intro A3 c3 w3 a5 g3 b3 l3;have B3:=b3 _ _ (af _) bb)
    have eF:Hid (w3.ownsRow v7.heap.size 35 9 (.slice A3 (k+1) c3) (k+1) (lF (D++[ac2 kq ky ⟨q0,q1,q2,q3,q4,q5,q6,q7,[]⟩]))):=ao (by rw[Mu,eE.h];exact a5);have eG:=ao B3;clear a4 a5 g3 b3 l3 B3 x0 x1 x2 x3 x4 x5 x6 x7 x8 bb
    (try go_wp2_with fail)
    go_roundw
    case rel=>exact⟨k+1,A3,c3,_,ba,rfl,by go_num,eC,eD,eF,eG⟩
    case measure=>have:=ba.h;simp[intOf];omega
   |true=>
    obtain⟨bt,ot,s,rfl,eB,hC,bH,a0,dS⟩:=hz.h rfl;obtain⟨ky,a3⟩:∃v:List UInt8,v=s:=⟨_,rfl⟩;rw[<-a3] at bH a0 dS;obtain⟨eC,eD⟩:=dF (f1 ky (.inr a0)) (d8 ky (.inr bH));have b5:=d7.h ky;have j1:(k:Int)<tn:=ae;have x8:Cz vb gy 8 (.string (str [])):=bE.cell 8;have f8:=bN.frozen bE 8;clear eB hC bH a0 a3
    go_upto_region 12 with(fail)
    clear x8 f8 j1 dS;obtain⟨vc,dT⟩:∃v,v=vb.setCell ⟨gy,8,none⟩ (.string (str ky)):=⟨_,rfl⟩;have Cc:kM vc gy ⟨q0,ay,q2,q3,q4,q5,q6,q7,ky⟩:=dT▸bE.WA 8 _ rfl;have Bc:Bz wo vc:=dT▸eA.setCell (bu f2.symm) _;refine jN dT ?_;clear dT;have bb:=dW HB Bc;have a4:vc.ownsRow v7.heap.size 35 9 (.slice Ad k cd) k (lF D):=bP HO Bc
    (try clear a3)
    obtain⟨x0,x1,x2,x3,x4,x5,x6,x7,x8⟩:=Cc.reads;have eE:=ao b5;clear Cc b5
    go_wp2_with (at_builtin
                 refine dO VZ a4 #[Iz q0,Iz ay,Iz q2,Iz q3,Iz q4,Iz q5,Iz q6,Iz q7, .string (str ky)] rfl _ _ rfl rfl rfl rfl (by intro u hu;exact NT ⟨q0,ay,q2,q3,q4,q5,q6,q7,ky⟩ u hu) ae bb.size ?_;intro A3 c3 w3 a5 g3 b3 l3;have B3:=b3 _ _ (af _) bb)
    have eF:Hid (w3.ownsRow v7.heap.size 35 9 (.slice A3 (k+1) c3) (k+1) (lF (D++[ac2 kq ky ⟨q0,q1,q2,q3,q4,q5,q6,q7,[]⟩]))):=ao (by rw[Mu,eE.h];exact a5);have eG:=ao B3;clear a4 a5 g3 b3 l3 B3 x0 x1 x2 x3 x4 x5 x6 x7 x8 bb
    (try go_wp2_with fail)
    go_roundw
    case rel=>exact⟨k+1,A3,c3,_,ba,rfl,by go_num,eC,eD,eF,eG⟩
    case measure=>have:=ba.h;simp[intOf];omega
  ·obtain rfl:k=M:=ae
   have i1:¬(k:Int)<k:=ae;have own:=HO.h;have eI:=et.h;have f3:D.length=k:=eI.len;have f4:=eu.h;obtain⟨f5,f6,hD,f7⟩:=mh (dP.O own) f3 f4 eI;have Dq:=d4.h.below HB;obtain⟨d9,eJ,f9,eK⟩:=mh Dq (fz.below HB) (b2.below HB) (dW d5 HB);clear own f3 f4 eI et eu HO HB a2 d4 fz b2 d5;have z0:Cz wo J 0 (.string (str P.code)):=Dq.cell 0;have z1:Cz wo J 1 (.slice ma P.E.length mc):=Dq.cell 1;have z2:Cz wo J 2 (Iz P.tick):=Dq.cell 2;have z3:Cz wo J 3 (Iz P.low):=Dq.cell 3;have z4:Cz wo J 4 (Iz P.high):=Dq.cell 4;have z5:Cz wo J 5 (Iz P.wide):=Dq.cell 5;have z6:Cz wo J 6 (Iz P.rule):=Dq.cell 6;have z7:Cz wo J 7 (Iz P.top):=Dq.cell 7;have z8:Cz wo J 8 (Iz P.least):=Dq.cell 8;have z9:Cz wo J 9 (Iz P.part):=Dq.cell 9;have b0:Cz wo J 10 (.slice sa P.settle.length sc):=Dq.cell 10;clear Dq;go_wp2_with fail;refine(J1 P ma mc sa sc Ac k cc cl wo eJ EM.symm f9 (by rw[<-EM.h];omega) (N3 cT)).mono ?_;clear z0 z1 z2 z3 z4 z5 z6 z7 z8 z9 b0;rintro e v9⟨g,Aa,ca,C,Gs,R,rfl,b6,b9⟩;have gb:=b6.Y0 cT;have bf:=b6.pos;have hlen:=b6.len;have bh:=b6.own;obtain⟨La,eL⟩:∃x,x=(runM P (Mk.new P) cl).2:=⟨_,rfl⟩;rw[<-eL] at bh bf hlen⊢;obtain⟨Na,eN⟩:∃x,x=La.length:=⟨_,rfl⟩;rw[<-eN] at bh bf hlen⊢;rw[<-EM.h] at bf hlen;obtain⟨eO,b8,gi,eQ⟩:=mh gb bh eL eN;have Dq:=d9.h.below b9;obtain⟨ea,eb,ed,hE⟩:=mh (eJ.below b9) (f5.below b9) (dW eK b9) eK.size;clear gb bh eL eN b6 b9 eJ f5 eK f9 d9;have z0:Cz v9 J 0 (.string (str P.code)):=Dq.cell 0;have z1:Cz v9 J 1 (.slice ma P.E.length mc):=Dq.cell 1;have z2:Cz v9 J 2 (Iz P.tick):=Dq.cell 2;have z3:Cz v9 J 3 (Iz P.low):=Dq.cell 3;have z4:Cz v9 J 4 (Iz P.high):=Dq.cell 4;have z5:Cz v9 J 5 (Iz P.wide):=Dq.cell 5;have z6:Cz v9 J 6 (Iz P.rule):=Dq.cell 6;have z7:Cz v9 J 7 (Iz P.top):=Dq.cell 7;have z8:Cz v9 J 8 (Iz P.least):=Dq.cell 8;have z9:Cz v9 J 9 (Iz P.part):=Dq.cell 9;have b0:Cz v9 J 10 (.slice sa P.settle.length sc):=Dq.cell 10;clear Dq;go_wp2_with fail;refine(J1 P ma mc sa sc Ad k cd D v9 ea f6 eb (by rw[f6.h];omega) hD).mono ?_;clear z0 z1 z2 z3 z4 z5 z6 z7 z8 z9 b0;rintro e v10⟨g2,Ab,cb,C2,Gs2,R2,rfl,cf,eR⟩;have bp:=cf.own;have a6:=adF HR ep eO (l':=D) (by rw[f7.h.len,<-EM.h]) (fun i y y' h1 h2=>f7.at_ i y y' h1 h2);rw[<-gi.h] at a6;obtain⟨Lb,gj⟩:∃x,x=(runM P (Mk.new P) D).2:=⟨_,rfl⟩;rw[<-gj] at bp a6⊢;have eS:Lb.length=Na:=by rw[eQ.h,a6,br]
   rw[eS] at bp⊢;have gq:∀r∈La,1<=r.id/\r.id<=1001:=fun r hr=>by
    obtain⟨y,hy,he⟩:=eO.h.id (r:=r) (gi.h▸hr);rw[he];exact eO.Y8 hy
   obtain⟨hG,gv,hH,hI⟩:=mh bp a6 gq eS;have hJ:Hid (∀j,(Value.slice Aa Na ca).ownBlock=some j->j<v9.heap.size):=ao fun j hj=>(b8.lt j hj).2;obtain⟨gA,eT⟩:=dF (bP b8 eR) (dW ed eR);clear bp a6 gq eS cf gj eR ea eb b8 ed;go_wp2_with fail
   go_loopw [19] (fun i wr=> ∃k:Nat,k<=Na/\i= Iz k/\Hid (wr.ownsRow wo.heap.size 40 8 (.slice Aa Na ca) Na (fC (qU (acY kq) k La)))/\Hid (wr.ownsRow v9.heap.size 40 8 (.slice Ab Na cb) Na (fC Lb))/\Hid (Below wo.heap.size v10 wr)) (fun i _=>Na - (intOf i).toNat)
   case atStart=>exact⟨0,aB _,rfl,ao (by rw[Qy];exact gA),hG,ao (aa _ _)⟩
   case round=>
    obtain⟨j,hj,rfl,HO,d2,HB⟩:=hrel;obtain⟨wp,rfl⟩:∃wo,wo=wr:=⟨_,rfl⟩
    by_cases a2:j<Na
    ·obtain⟨ga,rfl,_,_⟩:=kz HO ae
     have gG:ga<v9.heap.size:=hJ ga rfl;have gI:j<La.length:=eQ.h▸a2;obtain⟨r,hr⟩:∃r,La[j]?=some r:=⟨_,aj gI⟩;have cf:=hH.h r (aH hr);have hmx:=Vf (f:=(acY kq)) hr;have I:∀t v,t<8->r.cells[t]?=some v->(fC (qU (acY kq) j La))[j*8+t]?=some v:=fun t v ht hv=>(ig ir.bG t ht hmx).trans hv;have own:=HO.h;have ck:=d2.h;have ef:fC (qU (acY kq) (j+1) La)=(fC (qU (acY kq) j La)).set (j*8+1) (Iz (r.id+kq)):=by
      rw[<-TD (f:=(acY kq)) hr];exact(tI ir.bG ae hmx rfl).symm
     obtain⟨r0,r1,r2,r3,r4,r5,r6,r7⟩:=r;have hX:1<=r1/\r1<=1001:=cf;have nr:IntKind.i64.wrap (r1+kq)=r1+kq:=by have:=ep.h;exact aN _ ae
     have h5:=I 1 _ ae rfl;have i2:(j:Int)<Na:=ae;obtain⟨hL,ba,gO⟩:=fY ef a2 gG;clear hr cf hmx ef I a2 gI gG HO d2;have y0:Cz wp ga (j*8+1) (Iz r1):=dI own h5;have f0:=fJ own (j*8+1)
     go_upto_region 17 with(fail)
     clear y0 f0;obtain⟨eU,cm⟩:∃v,v=wp.setCell ⟨ga,j*8+1,none⟩ (Iz (r1+kq)):=⟨_,rfl⟩;have cn:eU.ownsRow wo.heap.size 40 8 (.slice (some ⟨ga,0,none⟩) Na ca) Na ((fC (qU (acY kq) j La)).set (j*8+1) (Iz (r1+kq))):=cm▸jM own h5 _;have ct:eU.ownsRow v9.heap.size 40 8 (.slice Ab Na cb) Na (fC Lb):=cm▸aX ck fun g hg=>av _ _ _ _ (show g≠ga by have:=(ck.lt g hg).1;have:=gO.h;omega);have gP:Below wo.heap.size v10 eU:=cm▸(HB).setCell ((ju own).1) _;refine jN cm ?_;clear cm own ck;obtain⟨gR,gT,BA⟩:=fY cn ct gP;clear cn ct gP;go_wp2_with fail;go_roundw
     case rel=>exact⟨j+1,ba,by go_num,ao (hL.h▸gR),gT,BA⟩
     case measure=>have:=ba.h;simp[intOf];omega
    ·obtain rfl:j=Na:=ae
     have i2:¬(j:Int)<j:=ae;have eg:qU (acY kq) j La=Lb:=gv.h▸eQ.h▸TB (acY kq) La;have own:=HO.h;rw[eg] at own;have g4:=dP.O d2;have g6:=dP.O own;have hY:k<=j:=bf;have hM:j<=100000000000:=ae;obtain⟨bE,g7,g8⟩:=fY g4 g6 (eT.trans (HB.mono hE));clear eg own g4 g6 a2 HO d2;go_wp2_with fail;refine(Th Aa ca Ab cb j Lb wp hI hM g7 bE).mono ?_;rintro e v11⟨rfl,hN⟩;go_wp2_with fail;refine(Qw v11).mono ?_;rintro e h6⟨rfl,hO⟩;go_wp2_with fail;go_ret;exact⟨rfl,dW (dW g8 hN) hO⟩
end Go.Proofs.YtbaaheidifacaaaGreat
