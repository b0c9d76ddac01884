import Derived.Test.YtbaaheidifacaaaGreatQReader
import Derived.Laws.DeepNot64
set_option linter.defProp false
set_option linter.unusedVariables false
set_option linter.unusedSimpArgs false
set_option maxRecDepth 100000
set_option maxHeartbeats 12800000
namespace Go.Proofs.YtbaaheidifacaaaGreat
variable {A:Option Addr} {Q:Nat→Prop} {base base' c d j k n:Nat} {l:List UInt8} {ls:List (List UInt8)} {o:wM} {r:Option Nat} {v:Value} {vs xs:List Value} {w w':World}
open Go.RowKit
def nn (w:World) (l:List UInt8) (z:Int) (e:Ending) (w':World):Prop:=
 ∃A c,e= .returned (.tuple #[.slice A l.length c,Iz z])∧w'.ownsRow w.heap.size 5 1 (.slice A l.length c) l.length (ij l)∧Cells w' A (ij l)∧l.length≤c∧c≤maxLen∧Bz w w'
theorem Un (n:Nat) (h:n<=255):le 1 (gJ n)=[Ce n]:=by
 rw[show gJ (n:Int)=n by unfold gJ;omega];rfl
theorem Uo (n:Nat) (h:n<=255):le 1 (gJ (-1 - (n:Int)))=[Ce (255 - n)]:=by
 show[Ce _]=_
 congr 1
 apply UInt8.toNat_inj.1;rw[rv,rv];unfold gJ;omega
theorem o8 {D I:World} {l2:List UInt8} (hd:w.heap.size<=d) (J:Bz w D) (W:gS D d r l) (h:Leaves d r D I):Bz w I:=
 J.trans (h.below hd (fun g hg=>cA ((W.jC.2 g hg).1)) J.size)
theorem RQ (A:Option Addr) (n c:Nat) (l:List UInt8) (w:World) (hn:l.length=n) (hl:n<=255) (hA:Cells w A (ij l)):
  Wz 117 #[.slice A n c] w (nn w (nh l) 0):=by
 subst hn;obtain⟨U1,U2,HL⟩:=fY (Un l.length hl) (Uo l.length hl) (nV l);have CR:=Nt l;have ax:=i64_not l.length ae
 go_enter Tryz.func117,Tryz.ntmps117
 go_wp2_with fail;refine(vU _).mono ?_;rintro e w1⟨d,rfl,hd,W1,B1⟩;go_wp2_with fail;refine(uu d _ _ _ _ W1 bT).mono ?_;rintro e w2⟨rfl,⟨r2,W2,a2⟩,L2⟩;have B2:=o8 (l2:=[]) hd B1 W1 L2;rw[U1.h] at W2;clear W1 L2 a2 B1;go_wp2_with fail;refine(uu d _ _ _ _ W2 bT).mono ?_;rintro e w3⟨rfl,⟨r3,W3,a5⟩,L3⟩;have B3:=o8 (l2:=[]) hd B2 W2 L3;rw[U2.h] at W3;clear W2 L3 a5 B2 ax;obtain⟨p,ep⟩:=Zn (([]++[Ce l.length])++[Ce (255 - l.length)]);have hp:p.length=2:=by rw[ep];rfl
 rw[<-ep] at W3;obtain⟨EP,HP⟩:=dF ep hp;clear ep hp;obtain⟨A1,c1,k0,f0,own,I,bb,a6⟩:=W3.reads;have D:=ao I;have ay:=hA.below B3;clear I
 go_wp2_with (at_builtin;refine nJ zC own (news:=ij l) rfl _ _ rfl rfl rfl (kW l) ay (sw l) (cA HP.h) ae (p.length+l.length) (ij (p++l)) rfl (by simp[ij]) ?_;intro A4 c4 w4 p4;have kd:w4.heap[d]?=w3.heap[d]?:=p4.grown.block d a6 (mM own ae);have q0:=Yd kd k0;have qf:=(aY (a:=⟨d,0,none⟩) kd).trans f0;clear kd)
 obtain⟨r5,W5,a7,L5⟩:=W3.grow (l':=p++l) (N:=p.length+l.length) k0 bT p4.own (D.h▸p4.grown) (by
  rcases p4.jV with h1|h1
  ·exact .inl (h1.trans D)
  ·exact .inr fun g hg=>by rw[h1] at hg;simp at hg;omega)
 have B5:=o8 (l2:=[]) hd B3 W3 L5;have a0:=hA.below B5;clear p4 q0 qf own k0 f0 W3 L5 a7 B3 ay D hA
 generalize w4.setCell ⟨d,0,none⟩ (.slice A4 (p.length+l.length) c4)=wx at*
 go_wp2_with fail;refine(Nu A _ c l _ rfl ae a0).mono ?_;rintro e w6⟨rfl,rfl⟩;go_wp2_with fail;refine(RN d _ _ (zD l) _ W5 (by have:=HP.h;simp;omega) CR).mono ?_;rintro e w6⟨rfl,⟨r6,W6,a8⟩,L6⟩;have B6:=o8 (l2:=[]) hd B5 W5 L6;have J:(p++l)++le 4 (zD l)=nh l:=by rw[EP.h];rfl
 rw[J] at W6;clear W5 L6 a8 B5 a0 J CR;go_wp2_with fail;refine(Jg d _ _ _ W6 (by rw[HL.h];omega)).mono ?_;rintro e w7⟨A7,c7,rfl,O,ba,h1,h2,hb⟩;obtain⟨m,em⟩:=Zn ((nh l).length);have EM:=ao em;rw[<-em] at O h1⊢;clear em;go_wp2_with fail
 go_ret2
 exact⟨A7,c7,by rw[<-EM.h];rfl,EM.h▸ch O B6.size,ba,EM.h▸h1,h2,dW B6 hb⟩
def kE (w:World) (o:wM) (e:Ending) (w':World):Prop:=
 ∃A c,e= .returned (.tuple #[.slice A o.b.length c,Iz (o.stop:Nat),Iz (o.fy:Nat)])∧w'.ownsRow w.heap.size 5 1 (.slice A o.b.length c) o.b.length (ij o.b)∧Cells w' A (ij o.b)∧o.b.length≤c∧c≤maxLen∧Bz w w'
theorem kE.fail (D:o=⟨[],0,k⟩) (I:Bz w w'):kE w o (.returned (.tuple #[.slice none 0 0,Iz 0,Iz (k:Int)])) w':=by
 subst D;exact⟨none,0,rfl,aM _ _ _ _,Cells.nil _ _,af _,aB _,I⟩
theorem Wv (n:UInt8):bits .xor .u8 IntKind.u8.max (n.toNat:Int)=((255 - n.toNat:Nat):Int):=by
 have h:=n.toNat_lt;show IntKind.u8.wrap ((BitVec.ofInt 8 255 ^^^ BitVec.ofInt 8 (n.toNat:Int)).toNat:Int)=_;have D:BitVec.ofInt 8 255=BitVec.allOnes 8:=by decide
 rw[D,BitVec.allOnes_xor,BitVec.toNat_not,ofInt_u8 _ ae,IntKind.wrap_u8'];omega
theorem RS (A:Option Addr) (n c:Nat) (l:List UInt8) (at_:Int) (w:World) (hn:l.length=n) (hl:n<=1000000000000) (hc:n<=c) (bV:c<=9223372036854775807) (hA:Cells w A (ij l)):
  Wz 151 #[.slice A n c,Iz at_] w (kE w (xP l at_)):=by
 subst hn
 by_cases h0:at_<0
 ·have e1:xP l at_=⟨[],0,1⟩:=by unfold xP;rw[if_pos (.inl h0)]
  have E1:=ao e1;clear e1
  go_enter Tryz.func151,Tryz.ntmps151
  go_wp2_with fail
  go_ret3
  exact kE.fail E1 (aa _ _)
 ·by_cases h1:(l.length:Int)<at_
  ·have e1:xP l at_=⟨[],0,1⟩:=by unfold xP;rw[if_pos (.inr h1)]
   have E1:=ao e1;clear e1
   go_enter Tryz.func151,Tryz.ntmps151
   go_wp2_with fail
   go_ret3
   exact kE.fail E1 (aa _ _)
  ·obtain⟨k,rfl⟩:∃k:Nat,at_=k:=⟨at_.toNat,ae⟩
   have hk:k<=l.length:=ae;have e1:xP l k=iw (l.drop k) k:=by
    unfold xP;rw[if_neg ae];rfl
   rw[e1];clear e1 h0 h1
   by_cases h2:l.length - k<2
   ·have e2:iw (l.drop k) k=⟨[],0,10⟩:=by
     rcases I:l.drop k with _|⟨x,_|⟨y,t⟩⟩
     ·rfl
     ·rfl
     ·have:=congrArg List.length I
      simp at this;omega
    have E2:=ao e2;clear e2;have i1:((l.length - k:Nat):Int)<2:=ae;have i3:(k:Int)<=l.length:=ae
    by_cases bH:c=k
    ·subst bH
     go_enter Tryz.func151,Tryz.ntmps151
     go_wp2_with fail
     go_ret3
     exact kE.fail E2 (aa _ _)
    ·go_enter Tryz.func151,Tryz.ntmps151
     go_wp2_with fail
     go_ret3
     exact kE.fail E2 (aa _ _)
   ·obtain⟨x,y,t,I⟩:∃x y t,l.drop k=x::y::t:=by
     rcases I:l.drop k with _|⟨x,_|⟨y,t⟩⟩
     ·have:=congrArg List.length I
      simp at this;omega
     ·have:=congrArg List.length I
      simp at this;omega
     ·exact⟨x,y,t,rfl⟩
    have ht:l.length=k+2+t.length:=by
     have:=congrArg List.length I;simp at this;omega
    obtain⟨b,o,rfl,hb,ax⟩:=hA (by intro h0;simp[ij] at h0;subst h0;simp at ht;omega);have a5:∀j v,(x::y::t)[j]?=some v->l[k+j]?=some v:=fun j v hj=>by rw[<-I,jH] at hj;exact hj
    have q0:Cz w b (o+k) (.int .u8 (x.toNat:Int)):=ax k _ (by have:=a5 0 x rfl;simp at this;simp[ij,this]);have q1:Cz w b (o+k+1) (.int .u8 (y.toNat:Int)):=by
     have:=ax (k+1) (.int .u8 (y.toNat:Int)) (by have:=a5 1 y rfl;simp[ij,this])
     rwa [<-bg] at this
    have hT:Cells w (some ⟨b,o+k+2,none⟩) (ij t):=fun _=>⟨b,_,rfl,hb,fun j v hj=>by
     have:=ax (k+2+j) v (by
      simp only[ij,bo] at hj⊢;rw[bg];rcases a8:t[j]? with _|z
      ·rw[a8] at hj;simp at hj
      ·rw[a8] at hj
       have:=a5 (2+j) z (by rw[Vi];simpa using a8);rw[this];exact hj)
     rwa [<-bg,<-bg] at this⟩
    rw[I];obtain⟨L,eL⟩:=Zn l.length;rw[<-eL] at ht hl hc hk⊢;clear ax a5 hA I h2 eL;have hx:=x.toNat_lt;have hy:=y.toNat_lt;have ay:=Wv x;obtain⟨m,em⟩:=Zn (255 - x.toNat);rw[<-em] at ay;have i1:(k:Int)<=L:=ae;have i2:¬c=k:=ae;have i4:¬((L - k:Nat):Int)<2:=ae;have D:bits .xor .u8 (if IntKind.u8.signed=true then -1 else IntKind.u8.max) (x.toNat:Int)=(m:Int):=ay
    by_cases hm:y.toNat=m
    ·have d1:((y.toNat:Int) !=bits .xor .u8 (if IntKind.u8.signed=true then -1 else IntKind.u8.max) (x.toNat:Int))=false:=by rw[D];simp;omega
     obtain⟨N,eN⟩:=Zn x.toNat;have bf:iw (x::y::t) k=if t.length<N+4 then ⟨[],0,10⟩ else if mR ((t.drop N).take 4)≠zD (t.take N) then ⟨[],0,14⟩ else ⟨t.take N,k+N+6,0⟩:=by
      simp only[iw];rw[if_neg ae,<-eN]
     rw[bf];rw[<-eN] at q0 d1 hx;have HT:=ao ht;clear bf D ay ht eN em hm
     by_cases hs:t.length<N+4
     ·rw[if_pos hs]
      have i5:L - k<N+6:=cA HT.h;clear hs
      go_enter Tryz.func151,Tryz.ntmps151
      go_wp2_with fail
      go_quiet (fail)
      go_wp2_with fail
      go_ret3
      exact kE.fail rfl (below_drewN (aa _ _) _)
     ·rw[if_neg hs]
      have i5:N+6<=L - k:=cA HT.h;have bQ:N+4<=t.length:=ae;have ba:Cells w (some ⟨b,o+k+2,none⟩) (ij (t.take N)):=hT.Nv N;have bb:Cells w (some ⟨b,o+k+(2+N),none⟩) (ij ((t.drop N).take 4)):=by
       have h1:=hT.VO N (t.length+1) ae;rw[if_neg ae] at h1;simp only[fc,Addr.add_lit,bg] at h1;have h2:=h1.Nv 4
       rwa [<-bg] at h2
      have ul:((t.drop N).take 4).length=4:=iW;have vl:(t.take N).length=N:=iW;obtain⟨u,eu⟩:=Zn ((t.drop N).take 4);obtain⟨v,ev⟩:=Zn (t.take N);rw[<-eu,<-ev];rw[<-eu] at bb ul;rw[<-ev] at ba vl;clear eu ev hT hs bQ HT;obtain⟨O,eO⟩:=Zn (if mR u≠zD v then ⟨[],0,14⟩ else ⟨v,k+N+6,0⟩:wM);rw[<-eO];obtain⟨EO,UL,VL⟩:=fY eO ul vl;clear eO ul vl
      go_enter Tryz.func151,Tryz.ntmps151
      go_wp2_with fail
      go_quiet (fail)
      go_wp2_with fail;have a0:=ba.drewN nq;have a6:=bb.drewN nq;have BQ:=below_drewN (aa w.heap.size w) nq;clear ba bb q0 q1 d1
      generalize w.drewN nq=wq at*
      refine(DH _ _ _ u _ UL ae a6).mono ?_;rintro e w1⟨d,rfl,hd,R1,B1⟩;have bh:=a0.below B1;have bp:(⟨u,false⟩:Rd).uv 4=u:=by
       have:=UL.h;rw[(xQ (s:=⟨u,false⟩) (n:=4) iW).1];exact aL (by show u.length<=4;omega)
      have a7:=xO u;rw[UL.h] at a7;have bt:=ao bp;clear a6 bp;have i6:2+N<=c - k:=ae;have i7:¬c - k=2:=ae;have i8:(2:Int)+N<=((c - k:Nat):Int):=ae;have i9:((2:Int)+N).toNat=2+N:=ae;have b0:(2:Int)<=2+N:=ae;go_wp2_with fail;refine Zb wq.heap.size 99999 [1,6] [0,3,4,5,1,2,6,7] ?_;refine Yt ?_;refine Ym fun K hK=>?_;refine(Gp d 4 4 ⟨u,false⟩ _ rfl ae (R1.below (aS (aa _ _)))).mono ?_;rw[bt.h];rintro e w2⟨rfl,T2⟩;have B2:Below wq.heap.size w1.drew w2:=T2.leaves.below hd bT B1.size;have a2:=a0.below (B1.drew.trans B2);have B3:Bz w w2:=dW BQ (B1.drew.trans B2);clear R1 bh a0 B1 T2 bt;refine Yo hK (B2) ?_;clear B2;refine Yt ?_;refine Ym fun K hK=>?_;refine(Nu _ _ _ v _ VL ae a2).mono ?_;rintro e w3⟨rfl,rfl⟩;refine Yo hK (dH.J _ _) ?_;refine Yt ?_;refine aT ?_;have bR:=Nt v;obtain⟨U,eU⟩:=Zn (mR u);obtain⟨V,eV⟩:=Zn (zD v);rw[<-eU] at a7⊢;rw[<-eV] at bR⊢;obtain⟨EU,EV⟩:=dF eU eV;clear eU eV;have b2:=ao (by have:=VL.h;omega:v.length<=1099511627776);have b7:IntKind.u32.wrap (U:Int)=(U:Int):=by rw[IntKind.wrap_u32'];omega
      by_cases bc:U=V
      ·have hO:O=⟨v,k+N+6,0⟩:=by
        rw[EO.h,if_neg (by rw[<-EU.h,<-EV.h];simp[bc])]
       subst bc;have HO:=ao hO;clear hO
       go_wp2_with (at_builtin;refine nJ zC (cI (base:=w2.heap.size) w2 #[] 0 (af _) (aB _) rfl) (news:=ij v) rfl _ _ rfl rfl rfl (by rw[kW];exact VL) (a2.alloc _) (sw v) ae bT N (ij v) ae bT ?_;intro A4 c4 w4 p4)
       go_ret3
       have bE:(k:Int)+(2+(N:Int))+4=((k+N+6:Nat):Int):=ae;rw[HO.h];refine⟨A4,c4,?_,?_,Cells.O p4.own,?_,?_,p4.below _ _ (cA B3.size) (au B3 _)⟩
       ·show Ending.returned (.tuple #[.slice A4 N c4,Iz ((k:Int)+(2+(N:Int))+4),Iz 0])=_
        rw[bE,VL.h];rfl
       ·rw[VL.h];exact ch p4.own B3.size
       ·rw[VL.h];exact ie p4.own
       ·obtain⟨A',c',bU,_,b8⟩:=gD p4.own
        injection bU with _ _ b9;omega
      ·have hO:O=⟨[],0,14⟩:=by
        rw[EO.h,if_pos (EU.h▸EV.h▸bc)]
       have HO:=ao hO;clear hO;have dS:((U:Int) !=(V:Int))=true:=iW;go_wp2_with fail
       go_ret3
       exact kE.fail HO B3
    ·have e2:iw (x::y::t) k=⟨[],0,14⟩:=by
      simp only[iw];rw[if_pos ae]
     have E2:=ao e2;have d1:((y.toNat:Int) !=bits .xor .u8 (if IntKind.u8.signed=true then -1 else IntKind.u8.max) (x.toNat:Int))=true:=by rw[D];simp;omega
     have HT:=ao ht;clear e2 em D ay ht
     go_enter Tryz.func151,Tryz.ntmps151
     go_wp2_with fail
     go_quiet (fail)
     go_wp2_with fail
     go_ret3
     exact kE.fail E2 (below_drewN (aa _ _) _)
theorem RT (s:ByteArray):str s.data.toList=s:=by cases s;simp[str]
theorem Tryz.WZ:(Tryz.prog.info? 62).map (fun i=>(i.zero,i.size,i.bytes))=some (some (.slice none 0 0),1,24):=by kernel_rfl
theorem Xa:xf Tryz.prog 141 62 (.slice none 0 0) 24:=
 ⟨Tryz.underlying141,let ⟨i,h,D,I,J⟩:=info_parts Tryz.WZ;⟨i,h,D,I,J⟩,rfl,ae⟩
structure QJ (w:World) (base:Nat) (A:Option Addr) (c:Nat) (l:List UInt8):Prop where
 cells:Cells w A (ij l)
 le:l.length≤c
 max:c≤9223372036854775807
 sep:∀b o,A=some ⟨b,o,none⟩→l≠[]→b<w.heap.size∧(b<base∨∃cs x,w.heap[b]?=some (.cells cs 5 x))
theorem QJ.below (h:QJ w base A c l) (I:Bz w w'):QJ w' base A c l:=by
 refine⟨h.cells.below I,h.le,h.max,fun b o ha O=>?_⟩;obtain⟨J,D⟩:=h.sep b o ha O;refine⟨aA J I.size,?_⟩;rcases D with D|⟨cs,x,D⟩
 ·exact .inl D
 ·exact .inr ⟨cs,x,(I.block b J).trans D⟩
theorem QJ.O (h:w.ownsRow base 5 1 (.slice A l.length c) l.length (ij l)):QJ w base' A c l:=by
 obtain⟨A',c',hv,I,J⟩:=gD h;injection hv with _ _ hc;subst hc;refine⟨Cells.O h,I,J,fun b o ha hl=>?_⟩;rcases h.2 with⟨D,_⟩|⟨g,cap,cur,hv,_,hg,_⟩
 ·injection D with D _ _;rw[ha] at D;cases D
 ·injection hv with hA _ _
  rw[ha] at hA;injection hA with hA;injection hA with hA;subst hA;exact⟨(aU.1 hg).1, .inr ⟨_,_,hg⟩⟩
theorem QJ.grown (h:QJ w base A c l) (J:w.ownsRow base 62 1 v n xs) (hg:w.grownBy w' v.ownBlock):QJ w' base A c l:=by
 have key:∀b o,A=some ⟨b,o,none⟩->l≠[]->w'.heap[b]?=w.heap[b]?:=by
  intro b o ha I;obtain⟨h1,D⟩:=h.sep b o ha I;refine hg.block b h1 ?_;rcases J.2 with⟨rfl,_⟩|⟨g,cap,cur,rfl,ay,ax,_⟩
  ·simp[Value.ownBlock]
  ·simp only[Value.ownBlock,ne_eq,gf]
   intro e;subst e;rcases D with D|⟨cs,x,D⟩
   ·omega
   ·rw[ax] at D
    injection D with D;injection D with _ D;exact absurd D (by decide)
 refine⟨?_,h.le,h.max,fun b o ha I=>?_⟩
 ·intro O
  obtain⟨b,o,ha,hb,hc⟩:=h.cells O;have I:l≠[]:=by rintro rfl;exact O rfl
  refine⟨b,o,ha,aA hb hg.size,fun k u hu=>?_⟩;have:=hc k u hu;simp only[World.cell?] at this⊢;rw[key b o ha I];exact this
 ·obtain⟨h1,D⟩:=h.sep b o ha I
  refine⟨aA h1 hg.size,?_⟩;rw[key b o ha I];exact D
structure qT (w:World) (base:Nat) (vs:List Value) (ls:List (List UInt8)):Prop where
 len:vs.length=ls.length
 at_:∀(i:Nat) (l:List UInt8),ls[i]?=some l→∃A c,vs[i]?=some (.slice A l.length c)∧QJ w base A c l
theorem qT.nil (w:World) (base:Nat):qT w base [] []:=⟨rfl,fun i l h=>by simp at h⟩
theorem qT.below (h:qT w base vs ls) (D:Bz w w'):qT w' base vs ls:=by
 refine⟨h.len,fun i l I=>?_⟩;obtain⟨A,c,J,O⟩:=h.at_ i l I;exact⟨A,c,J,O.below D⟩
theorem qT.grown (h:qT w base vs ls) (D:w.ownsRow base 62 1 v n xs) (hg:w.grownBy w' v.ownBlock):qT w' base vs ls:=by
 refine⟨h.len,fun i l I=>?_⟩;obtain⟨A,c,J,O⟩:=h.at_ i l I;exact⟨A,c,J,O.grown D hg⟩
theorem qT.snoc (h:qT w base vs ls) {m:Nat} (hm:l.length=m) (hA:QJ w base A c l):qT w base (vs++[.slice A m c]) (ls++[l]):=by
 subst hm;refine⟨by simp[h.len],fun i x hx=>?_⟩
 by_cases hi:i<ls.length
 ·rw[bX hi] at hx
  obtain⟨A',c',k1,k2⟩:=h.at_ i x hx;exact⟨A',c',by rw[bX (by rw[h.len];exact hi)];exact k1,k2⟩
 ·rw[bK ae] at hx
  obtain⟨J,D⟩:i - ls.length=0/\x=l:=by
   rcases I:i - ls.length with _|k
   ·rw[I] at hx;simp at hx;exact⟨rfl,hx.symm⟩
   ·rw[I] at hx;simp at hx
  subst D;exact⟨A,c,by rw[bK (by rw[h.len];omega),h.len,J];rfl,hA⟩
theorem qT.keep (h:qT w base vs ls) (ho:∀v∈vs,∀g,v.ownBlock=some g->Q g) (hs:w.heap.size<=w'.heap.size) (hk:∀b,Q b->b<w.heap.size->w'.heap[b]?=w.heap[b]?) (D:base<=base'):qT w' base' vs ls:=by
 refine⟨h.len,fun i l hl=>?_⟩;obtain⟨A,c,h1,I⟩:=h.at_ i l hl;have hq:=ho _ (aH h1);refine⟨A,c,h1,?_,I.le,I.max,fun b o ha J=>?_⟩
 ·intro O
  obtain⟨b,o,ha,D,hc⟩:=I.cells O;refine⟨b,o,ha,aA D hs,fun k u hu=>?_⟩;have:=hc k u hu;simp only[World.cell?] at this⊢;rw[hk b (hq b (by rw[ha];rfl)) D];exact this
 ·obtain⟨k1,k2⟩:=I.sep b o ha J
  refine⟨aA k1 hs,?_⟩;rw[hk b (hq b (by rw[ha];rfl)) k1];rcases k2 with k2|k2
  ·exact .inl (aA k2 D)
  ·exact .inr k2
def Xb (w:World) (o:G7) (e:Ending) (w':World):Prop:=
 ∃A n c vs,e= .returned (.tuple #[.slice A n c,Iz (o.stop:Nat),Iz (o.fy:Nat)])∧o.rows.length=n∧w'.ownsRow w.heap.size 62 1 (.slice A n c) n vs∧qT w' 0 vs o.rows∧n≤c∧(∀v∈vs,∀g,v.ownBlock=some g→w.heap.size≤g∧g<w'.heap.size)∧Bz w w'
theorem kE.YV {e:Ending} (h:kE w o e w'):
  ∃A m c,e= .returned (.tuple #[.slice A m c,Iz (o.stop:Nat),Iz (o.fy:Nat)])/\o.b.length=m/\(∀base,QJ w' base A c o.b)/\(∀g,(Value.slice A m c).ownBlock=some g->w.heap.size<=g/\g<w'.heap.size)/\Bz w w':=by
 obtain⟨A,c,rfl,own,hA,hc,hm,D⟩:=h;exact⟨A,_,c,rfl,rfl,fun base=>QJ.O own,own.lt,D⟩
theorem MG {p:Nat} (h:p<=l.length):xP l (p:Nat)=iw (l.drop p) p:=by
 unfold xP;rw[if_neg ae];rfl
theorem Ts (A0:Option Addr) (n c0:Nat) (l:List UInt8) (w:World) (hn:l.length=n) (hl:n<=1000000000000) (hc:n<=c0) (bb:c0<=9223372036854775807) (hA:Cells w A0 (ij l)):
  Wz 114 #[.slice A0 n c0] w (Xb w (gU l 0)):=by
 obtain⟨O,eO⟩:=Zn (gU l 0);rw[<-eO];obtain⟨HO,HN⟩:=dF eO hn;clear eO hn
 go_enter Tryz.func114,Tryz.ntmps114
 go_wp2_with fail
 go_loopw [5,6] (fun v i wr=> ∃(p k:Nat) (rows:List (List UInt8)) (A:Option Addr) (c:Nat) (vs:List Value),p<=n/\k<=p/\i= Iz p/\v= .slice A k c/\Hid (rows.length=k)/\Hid (O=⟨rows++(gU (l.drop p) p).rows,(gU (l.drop p) p).stop,(gU (l.drop p) p).fy⟩)/\
  Hid (wr.ownsRow w.heap.size 62 1 (.slice A k c) k vs)/\Hid (qT wr 0 vs rows)/\Hid (∀v∈vs,∀g,v.ownBlock=some g->w.heap.size<=g/\g<wr.heap.size)/\Bz w wr) (fun _ i _=>n - (intOf i).toNat)
 case atStart=>exact⟨0,0,[],none,0,[],aB _,ae,rfl,rfl,rfl,by rw[HO.h];rfl,aM _ _ _ _,qT.nil _ _,ao (fun v hv=>absurd hv bT),aa _ _⟩
 case round=>
  obtain⟨p,k,rows,A,c,vs,hp,bE,rfl,rfl,HK,HP,HW,HB,HF,B⟩:=hrel;have hle:=ie HW
  by_cases bH:p<n
  ·have i1:(p:Int)<n:=ae
   have I:l.drop p≠[]:=by
    intro h;have:=congrArg List.length h;rw[cu,HN.h] at this;simp at this;omega
   have ay:=MG (l:=l) (p:=p) (by rw[HN.h];omega);go_wp2_with fail;refine(RS A0 n c0 l p _ HN hl hc bb (hA.below B)).mono ?_;rw[ay];obtain⟨o,eo⟩:=Zn (iw (l.drop p) p);rw[<-eo];intro e w2 h2;obtain⟨AX,m,cX,rfl,hm,a6,J,hb⟩:=h2.YV;have a0:Hid (∀v∈vs,∀g,v.ownBlock=some g->w.heap.size<=g/\g<w2.heap.size):=ao fun v hv g hg=>⟨(HF v hv g hg).1,aA (HF v hv g hg).2 hb.size⟩;have a5:Hid (∀g,(Value.slice AX m cX).ownBlock=some g->w.heap.size<=g/\g<w2.heap.size):=ao fun g hg=>⟨aF B.size (J g hg).1,(J g hg).2⟩;clear HF J;have hX:=a6 0;have B2:=dW B hb;have D:=bP HW hb;have a2:=ao (HB.below hb);obtain⟨P,s,y⟩:=o;simp only at hm hX
   by_cases hy:y=0
   ·subst hy
    obtain⟨e1,e2,e3⟩:=NX eo.symm;rw[hm] at e1 e2 e3;rw[cu,HN.h] at e2;have hsc:=U9 I eo.symm;rw[hm,QC,(ae:p+(m+6)=s)] at hsc;have bc:Hid (O=⟨(rows++[P])++(gU (l.drop s) s).rows,(gU (l.drop s) s).stop,(gU (l.drop s) s).fy⟩):=by
     show _=_;rw[HP.h,hsc];simp
    have hK':Hid ((rows++[P]).length=k+1):=by show _=_;rw[aC,HK.h];rfl
    have hs:s<=n:=ae;have bQ:p<s:=ae;have bf:k+1<=s:=ae;have HM:=ao hm;clear hsc e1 e2 e3 eo ay I HB HW B hb h2 hm HP HK
    go_wp2_with (at_builtin;refine mN Xa D (.slice AX m cX) rfl _ _ rfl rfl rfl rfl ae B2.size ?_;intro A4 c4 w4 a7 g4 b4)
    obtain⟨bh,bp⟩:=dF hK' ((a2.grown (ch D (aB _)) g4).snoc HM (hX.grown (ch D (aB _)) g4));have B4:=b4 _ _ (af _) B2;have bt:Hid (∀v∈vs++[Value.slice AX m cX],∀g,v.ownBlock=some g->w.heap.size<=g/\g<w4.heap.size):=ao fun v hv g hg=>by
     have bR:=g4.size;rcases aJ.1 hv with hv|hv
     ·have:=a0.h v hv g hg;omega
     ·rw[List.mem_singleton] at hv;subst hv;have:=a5.h g hg;omega
    clear g4 b4 D hX a6 a2 hK' a0 a5;go_roundw
    case rel=>exact⟨s,k+1,_,A4,c4,_,hs,bf,rfl,rfl,bh,bc,a7,bp,bt,B4⟩
    case measure=>simp[intOf];omega
   ·by_cases a8:y=10
    ·subst a8
     have hsc:=Tq I (by rw[<-eo]);have hO:O=⟨rows,p,0⟩:=by rw[HP.h,hsc];simp
     have ax:=ao hO;clear hsc hO eo ay I HP HW HB hb h2 hm HO;go_wp2_with fail
     go_ret3
     rw[ax.h];exact⟨A,k,c,vs,rfl,HK,D,a2,hle,a0,B2⟩
    ·have hsc:=Tr I (by rw[<-eo];exact hy) (by rw[<-eo];exact a8)
     have hO:O=⟨rows,p,14⟩:=by rw[HP.h,hsc];simp
     have ax:=ao hO;have d1:((y:Int)==0)=false:=iW;have d2:((y:Int)==10)=false:=iW;clear hsc hO eo ay I HP HW HB hb h2 hm HO;go_wp2_with fail
     go_ret3
     rw[ax.h];exact⟨A,k,c,vs,rfl,HK,D,a2,hle,a0,B2⟩
  ·have ba:l.drop p=[]:=aP (by rw[cu,HN.h];omega)
   have hO:O=⟨rows,p,0⟩:=by rw[HP.h,ba,Tp];simp
   have ax:=ao hO;have i1:¬(p:Int)<n:=ae;clear ba hO HP HO;go_wp2_with fail
   go_ret3
   rw[ax.h];exact⟨A,k,c,vs,rfl,HK,HW,HB,hle,HF,B⟩
def jD (w:World) (j d k:Nat):Prop:=w.heap[j]?=some (.cells #[Pz d,Iz (k:Int)] 208 (0,0))
theorem jD.keep (h:jD w j d k) (hd:w'.heap[j]?=w.heap[j]?):jD w' j d k:=hd.trans h
theorem jD.lt (h:jD w j d k):j<w.heap.size:=(aU.1 h).1
theorem jD.below (h:jD w j d k) (D:Bz w w'):jD w' j d k:=h.keep (D.block j h.lt)
theorem jD.reads (h:jD w j d k):w.cell? ⟨j,0,none⟩=some (Pz d)/\w.cell? ⟨j,1,none⟩=some (Iz (k:Int))/\w.frozen? ⟨j,1,none⟩=false:=by
 unfold jD at h;exact⟨by simp[World.cell?,h],by simp[World.cell?,h],by simp[World.frozen?,h]⟩
theorem jD.leaves {D:Nat} (h:jD w j d k) (I:Leaves D r w w') (J:j≠D) (O:some j≠r):jD w' j d k:=h.keep (I.block j h.lt J O)
structure NY (d j:Nat) (r:Option Nat) (w w':World):Prop where
 os:w'.os=w.os
 tape:w'.tape=w.tape
 output:w'.output=w.output
 size:w.heap.size≤w'.heap.size
 block:∀k,k<w.heap.size→k≠d→k≠j→some k≠r→w'.heap[k]?=w.heap[k]?
theorem J5 (j d k:Nat) (r:Option Nat) (l x:List UInt8) (s:Nat) (A:Option Addr) (n c:Nat) (w:World) (h:jD w j d k) (D:fj w d r l s) (a0:j≠d) (a2:some j≠r) (hn:x.length=n) (a5:n<=255) (hk:k<=1000000000) (bH:l.length+n+6<=1048576) (hA:Cells w A (ij x)):
  Wz 81 #[Pz j, .slice A n c] w fun e w'=>e= .returned (Iz 0)/\∃r',fj w' d r' (l++nh x) s/\(r'=r\/∀g,r'=some g->w.heap.size<=g)/\jD w' j d (k+1)/\NY d j r w w':=by
 obtain⟨c0,c1,f1⟩:=h.reads;have bQ:=h.lt
 go_enter Tryz.func81,Tryz.ntmps81
 go_wp2_with fail;refine(RQ A n c x _ hn a5 hA).mono ?_;have ax:(nh x).length=n+6:=by rw[nV,hn]
 obtain⟨G,eG⟩:=Zn (nh x);rw[<-eG] at ax⊢;obtain⟨a6,EG⟩:=dF ax eG;rintro e w2⟨AF,cF,rfl, -,hF,ba,bb,J⟩;rw[ax];have h2:=h.below J;have D2:=D.below J;obtain⟨bc,bf,bh⟩:=h2.reads;clear c0 c1 f1 ax ba bb eG;go_wp2_with fail;refine(MH d r l G s AF (n+6) cF _ D2 a6 (by rw[a6.h];omega) hF).mono ?_;rintro e w3⟨rfl,r',D3,O,L3⟩;have h3:=h2.leaves L3 a0 a2;obtain⟨bR,bU,bV⟩:=h3.reads;have a7:some j≠r':=by
  rcases O with rfl|O
  ·exact a2
  ·intro e;have:=O j e.symm;have:=J.size;omega
 have HR:=ao O;clear bc bf bh O;go_wp2_with fail;go_ret;rw[EG.h] at D3;have a8:(w3.setCell ⟨j,1,none⟩ (Iz ((k:Int)+1))).heap[j]?=some (.cells #[Pz d,Iz ((k+1:Nat):Int)] 208 (0,0)):=by
  rw[heap_setCell_same _ _ _ _ _ _ h3];rfl
 have I:Leaves j none w3 (w3.setCell ⟨j,1,none⟩ (Iz ((k:Int)+1))):=(Leaves.refl _ _ _).setCell _ _;refine⟨rfl,r',D3.other I (Ne.symm a0) bT (fun g hg=>⟨by rintro rfl;exact a7 hg.symm,bT⟩),?_,a8,?_⟩
 ·rcases HR with rfl|h9
  ·exact .inl rfl
  ·exact .inr fun g hg=>aF J.size (h9 g hg)
 ·refine⟨I.os.trans (L3.os.trans J.os),I.tape.trans (L3.tape.trans J.tape),I.output.trans (L3.output.trans J.output),aF J.size (aF L3.size I.size),fun b ay bp bt bE=>?_⟩
  have h1:=J.block b ay;have h2:=L3.block b (aA ay J.size) bp bE;have h3:=I.block b (aA ay (aF J.size L3.size)) bt bT;exact h3.trans (h2.trans h1)
def uN (l:List UInt8) (s:Nat):Nat:=if (gU l 0).stop<l.length then (gU l 0).stop else s
def V4 (w:World) (d:Nat) (r:Option Nat) (l:List UInt8) (s:Nat) (e:Ending) (w':World):Prop:=
 ∃j A n c vs r',e= .returned (.tuple #[Pz j, .slice A n c,Iz 0])∧(gU l 0).rows.length=n∧w'.ownsRow w.heap.size 62 1 (.slice A n c) n vs∧qT w' 0 vs (gU l 0).rows∧n≤c∧
  (∀v∈vs,∀g,v.ownBlock=some g→w.heap.size≤g∧g≠j∧some g≠r')∧jD w' j d n∧w.heap.size≤j∧some j≠r'∧fj w' d r' (l.take (gU l 0).stop) (uN l s)∧(r'=r∨∀g,r'=some g→w.heap.size≤g)∧Leaves d r w w'
theorem Dl:∀(k:Nat) (t:List UInt8) (p:Nat),(qL k t p).stop<=p+t.length
 |0,t,p=>by simp[qL]
 |k+1,t,p=>by
  unfold qL
  split
  ·simp
  ·split
   ·rename_i h
    have D:iw t p=⟨(iw t p).b,(iw t p).stop,0⟩:=by rw[<-h]
    obtain⟨I,J,_⟩:=NX D;have:=Dl k (t.drop ((iw t p).b.length+6)) (iw t p).stop;rw[cu] at this;show(qL k _ _).stop<=_;omega
   ·split<;>simp
theorem MI {e:TypeId} {size:Nat} (h:w.ownsRow base e size v n xs) (I:Leaves d r w w') (h1:d<base) (J:∀g,r=some g->v.ownBlock≠some g):w'.ownsRow base e size v n xs:=by
 refine⟨h.1,?_⟩;rcases h.2 with O|⟨g,cap,cur,hv,hg,D,rest⟩
 ·exact .inl O
 ·refine .inr ⟨g,cap,cur,hv,hg,?_,rest⟩
  rw[I.block g (aU.1 D).1 ae (fun he=>J g he.symm (by rw[hv];rfl))];exact D
theorem MJ (l:List UInt8):(gU l 0).stop<=l.length:=by
 have:=Dl (l.length+1) l 0;unfold gU;omega
theorem opens_mk {w3 w4:World} {r':Option Nat} {s:Nat} (D:fj w d r l s) (hn:(gU l 0).rows.length=n) (O:w3.ownsRow w.heap.size 62 1 (.slice A n c) n vs) (ax:qT w3 0 vs (gU l 0).rows) (hc:n<=c)
  (J:∀v∈vs,∀g,v.ownBlock=some g->w.heap.size<=g/\g<w3.heap.size) (b3:Bz w w3) (L:Leaves d none w3 w4) (D4:fj w4 d r' (l.take (gU l 0).stop) (uN l s)) (I:r'=r\/∀g,r'=some g->w3.heap.size<=g):
  V4 w d r l s (.returned (.tuple #[Pz w4.heap.size, .slice A n c,Iz 0])) (w4.alloc (.cells #[Pz d,Iz (n:Int)] 208)):=by
 have hd:=D.jC;have ay:=b3.size;have a0:=L.size;have ba:=(aa w4.heap.size w4).alloc (af _) (.cells #[Pz d,Iz (n:Int)] 208);refine⟨w4.heap.size,A,n,c,vs,r',rfl,hn,(MI O L hd.1 bT).alloc _,?_,hc,?_,heap_alloc_new _ _,ae,?_,D4.below ba,?_,?_⟩
 ·refine qT.below ?_ ba
  exact ax.keep (Q:=fun g=>w.heap.size<=g) (fun v hv g hg=>(J v hv g hg).1) L.size (fun b hq hb=>L.block b hb ae bT) (af _)
 ·intro v hv g hg
  have h1:=J v hv g hg;refine⟨h1.1,ae,?_⟩;rcases I with rfl|I
  ·intro e;have:=(hd.2 g e.symm).2;omega
  ·intro e;have:=I g e.symm;omega
 ·intro e
  have:=(D4.jC.2 _ e.symm).2;omega
 ·rcases I with rfl|I
  ·exact .inl rfl
  ·exact .inr fun g hg=>cA (I g hg)
 ·exact((Leaves.bL (r:=r) b3).trans L (.inr fun g hg=>by cases hg)).trans (Leaves.bL (r:=none) ba) (.inr fun g hg=>by cases hg)
theorem Qk (d:Nat) (r:Option Nat) (l:List UInt8) (s:Nat) (w:World) (D:fj w d r l s) (hy:(gU l 0).fy=0):
  Wz 74 #[Pz d] w (V4 w d r l s):=by
 have ax:=MJ l;have a2:=fun(w3 w4:World) (n c:Nat) (A:Option Addr) (vs:List Value) (r':Option Nat) hn ay bE hc J b3 L D4 a0=>opens_mk (w3:=w3) (w4:=w4) (n:=n) (c:=c) (A:=A) (vs:=vs) (r':=r') D hn ay bE hc J b3 L D4 a0;have I:uN l s=if (gU l 0).stop<l.length then (gU l 0).stop else s:=rfl;have a8:=ao a2;obtain⟨O,eO⟩:=Zn (gU l 0);rw[<-eO] at hy ax I;have HO:=ao eO;have bH:=D.small;obtain⟨N,eN⟩:=Zn l.length;rw[<-eN] at bH ax I;have HN:=ao eN;obtain⟨R,P,y'⟩:=O;have HP:Hid ((gU l 0).stop=P):=ao (by rw[<-eO]);have HR:Hid ((gU l 0).rows=R):=ao (by rw[<-eO]);clear eO eN a2;simp only at hy ax I;subst hy
 go_enter Tryz.func74,Tryz.ntmps74
 go_wp2_with fail;refine(Qj d r l s _ D).mono ?_;intro e w2 h2;obtain⟨A,c,rfl, -,hA,hc,hm,hb⟩:=h2.n HN.symm;clear h2;have bQ:c<=9223372036854775807:=hm;go_wp2_with fail;refine(Ts A N c l _ HN.symm ae hc bQ hA).mono ?_;rw[<-HO.h];rintro e w3⟨A4,n4,c4,vs,rfl,ba,own,hB,bb,J,a5⟩;have B3:=dW hb a5;have D3:=D.below B3;have ay:=ch own hb.size;have bc:Hid (qT w3 0 vs (gU l 0).rows):=ao (HR.h▸hB);have bf:Hid (∀v∈vs,∀g,v.ownBlock=some g->w.heap.size<=g/\g<w3.heap.size):=ao fun v hv g hg=>⟨aF hb.size (J v hv g hg).1,(J v hv g hg).2⟩;have bh:=ao ba;have bR:=(hA.below a5).Nv P;clear J hB own ba a5 hb hA
 by_cases bp:P<N
 ·have i1:(P:Int)<N:=ae
  have bt:(l.take P).length=P:=by rw[bJ,<-HN.h];omega
  have a6:=ao bt;rw[if_pos bp] at I;have a7:=ao I;clear bt I;go_wp2_with fail;refine(Tt d r l (l.take P) s A P c _ D3 a6 (by rw[a6.h];omega) bR).mono ?_;rintro e w4⟨rfl,r',D4,a0,L4⟩;rw[a6.h] at D4;have bU:=ao a0;clear a0;go_wp2_with fail
  go_ret3
  exact a8 w3 w4 n4 c4 A4 vs r' (HR.h▸bh) ay bc bb bf B3 L4 (HP.h▸a7.h▸D4) (.inr bU)
 ·have i1:¬(P:Int)<N:=ae
  rw[if_neg bp] at I;have a7:=ao I;clear I;go_wp2_with fail
  go_ret3
  exact a8 w3 w3 n4 c4 A4 vs r (HR.h▸bh) ay bc bb bf B3 (Leaves.refl _ _ _) (by rw[HP.h,a7.h,aL (by rw[<-HN.h];omega)];exact D3) (.inl rfl)
end Go.Proofs.YtbaaheidifacaaaGreat
