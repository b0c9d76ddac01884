import Derived.Test.YtbaaheidifacaaaGreatQProRef
import Derived.Test.YtbaaheidifacaaaGreatQDiv
import Derived.StillTailTactics
import Derived.WalkLawsBesides
set_option linter.defProp false
set_option linter.unusedVariables false
set_option linter.unusedSimpArgs false
set_option maxRecDepth 100000
set_option maxHeartbeats 12800000
namespace Go.Proofs.YtbaaheidifacaaaGreat
variable {A:Option Addr} {X Y l:List Int} {k:Nat} {least part q top v:Int} {ps:List Nat} {w:World}
open Go.RowKit
theorem Nf (hx:X[k]?=some v) (D:X.length=Y.length):(X.take k++Y.drop k).set k v=X.take (k+1)++Y.drop (k+1):=by
 have I:=aO hx;rw[dN hx,iB ((ae:k<Y.length)),yX (s:=X.take k) k v iW];have:k - (X.take k).length=0:=iW;rw[this,List.set_cons_zero,bD];rfl
theorem QU (D:k<X.length) (I:X.length=Y.length):(X.take k++Y.drop k)[k]?=Y[k]?:=by
 rw[bK iW];have:k - (X.take k).length=0:=iW;rw[this];simp
theorem Ng (hx:X.length<=k) (D:Y.length<=k):X.take k++Y.drop k=X:=by
 rw[aL hx,Vj D,fe]
theorem AG (l:List Int) (k:Nat) (v:Int):(bZ l).set k (Iz v)=bZ (l.set k v):=by simp[bZ,Vk]
theorem xn (h:l[k]?=some v):(bZ l)[k]?=some (Iz v):=by simp[bZ,h]
theorem QV (hx:X[k]?=some v) (D:Y[k]?=some v):X.take (k+1)++Y.drop (k+1)=X.take k++Y.drop k:=by
 have I:=aO D;rw[dN hx,iB I];have:Y[k]=v:=by rw[aj I] at D;exact bW D
 rw[this];simp
theorem vN:∀(l:List Int) (q:Int) (k:Nat),(cD l q).take k=cD (l.take k) q
 |[],q,k=>by simp[cD]
 |n::l,q,0=>by simp[cD]
 |n::l,q,k+1=>by simp[cD,vN l _ k]
theorem Oj (A:Option Addr) (n c:Nat) (l:List Int) (least q:Int) (w:World) (hn:l.length=n) (hr:eh l q=true) (h1:1<=least) (hA:Cells w A (bZ l)):
  Wz 189 #[.slice A n c,Iz least,Iz q] w (rV w 2 (Au l least q)):=by
 subst hn;obtain⟨hlen,hq,b2,ay⟩:=(iC l q).1 hr;have hb:∀n∈l,0<=n/\n<=1000000:=fun n hn=>cA (b2 n hn);obtain⟨ff,fs⟩:=Ht (by omega:l.length<=1000) hb hq ay h1;have dS:=xg l hb;have I:=uT (fun n hn=>(hb n hn).1) hq ay h1;have a8:∀x∈iJ l (dQ l.sum q least l),0<=x/\x<=1000000:=by
  intro x hx;refine⟨rZ (fun n hn=>(hb n hn).1) hq ay h1 x hx,?_⟩;obtain⟨k,hk⟩:=aG hx;simp only[iJ,dQ,gz,bo] at hk
  cases hn:l[k]? with
  |none=>simp[hn] at hk
  |some n=>
   simp[hn] at hk;have:=rX (all:=l.sum) (hb n (aH hn)).1 hq ay h1;have:=hb n (aH hn);omega
 have b7:(Au l least q).length=l.length:=kT l least q;have ba:l.length=0\/1<=l.sum:=by
  rcases l with _|⟨x,l⟩
  ·exact .inl rfl
  ·refine .inr ?_
   have h0:=b2 x cg;have h2:=MX l fun n hn=>(hb n (bB _ hn)).1;simp only[cN];omega
 obtain⟨F,hF⟩:=Zn (dQ l.sum q least l);obtain⟨R,hR⟩:=Zn (Au l least q);obtain⟨T,hT⟩:=Zn l.sum;have cm:F.length=l.length:=by rw[hF,dU]
 have bU:∀(k:Nat) (x:Int),l[k]?=some x->F[k]?=some (MZ T q least x):=fun k x h=>hF▸hT▸Eh h;have cn:R=pF F (cD (iJ l F) (q - F.sum)):=by rw[hR,hF];rfl
 rw[<-hR] at b7⊢;rw[<-hF] at ff fs I a8;rw[<-hT] at ay dS ba;obtain⟨HF,HS,HL,dT,HB,HT,d3,ct,HR,d4,bb,d5⟩:=QN ff fs cm bU hb hT I a8 hr cn b7 ba;clear ff fs cm bU hb hT I a8 hF hr cn b7 ba b2 hR;have d0:decide (least<1)=false:=iW
 go_enter Tryz.func189,Tryz.ntmps189
 go_wp2_with fail;refine(lL _ _ _ l q _ rfl ae hA).mono ?_;rintro e w'⟨rfl,rfl⟩;rw[HR.h];go_wp2_with fail;refine(TW _ _ _ l _ rfl ae (fun n hn=>cA (HB.h n hn)) hA).mono ?_;rintro e w'⟨rfl,rfl⟩;rw[<-HT.h,told,FY (sg ae),sg ae]
 go_wp2_with (at_make;refine wpList_mk Ed (n:=l.length) rfl _ _ rfl rfl rfl rfl ae ?_;intro w1 J g1 b1)
 have B1:=b1 _ _ (af _) (aa w.heap.size w);have ed:=(J.lt w.heap.size rfl).2;obtain⟨g,hg⟩:=Zn w.heap.size;rw[show(⟨w.heap.size,0,none⟩:Addr)=⟨g,0,none⟩ by rw[hg]] at J⊢;have HG:=ao hg;rw[show List.replicate l.length (Value.int .i64 0)=bZ (List.replicate l.length 0) by simp[bZ]] at J;clear g1 b1 hg;have bc:w1.ownsRow w.heap.size 2 1 (.slice (some ⟨g,0,none⟩) l.length l.length) l.length (bZ (F.take 0++(List.replicate l.length 0).drop 0)):=by simpa using J
 clear J
 go_loopw [36] (fun i wr=> ∃k:Nat,k<=l.length/\i= Iz k/\wr.ownsRow w.heap.size 2 1 (.slice (some ⟨g,0,none⟩) l.length l.length) l.length (bZ (F.take k++(List.replicate l.length 0).drop k))/\Bz w wr) (fun i _=>l.length - (intOf i).toNat)
 case atStart=>exact⟨0,aB _,rfl,bc,B1⟩
 case round=>
  obtain⟨k,hk,rfl,own,O⟩:=hrel
  by_cases b8:k<l.length
  ·obtain⟨b,o,x,rfl,b9,a2,hx⟩:=hA.jK b8
   have hc:=Yb O b9 a2;have a5:=HB.h x (bF hx.h);have i1:(k:Int)<l.length:=ae;have a6:=dT.h k x hx.h;have hT:=d5.h;have ba:1<=T:=ae;obtain⟨V,hV⟩:=Zn (x*q / T);have bp:=Hs a5.1 a5.2 hq ay ba;have ef:0<=V/\V<=1000000:=by
    have h:=rX (least:=1) (all:=T) a5.1 hq ay ae;have h0:0<=x*q / T:=yh (jG a5.1 hq) ae;unfold MZ at h
    split at h<;>omega
   rw[<-hV] at bp;have a7:MZ T q least x=if least<=V then V else 0:=by rw[MZ,<-hV]
   have a0:(List.replicate l.length (0:Int))[k]?=some 0:=by simp[b8]
   have bt:F.length=(List.replicate l.length (0:Int)).length:=by rw[HL.h];simp
   have cv:wr.cell? ⟨g,k,none⟩=some (Iz 0):=by
    rw[own.cellAt k ae];exact xn (by rw[QU (HL.h▸b8) bt,a0])
   have d6:Fz wr g k:=own.frozenAt k;have SM:=ao bp;rcases dec (least<=V) with⟨t2,d2⟩|⟨t2,d2⟩
   ·rw[if_pos t2] at a7
    rw[a7] at a6;have bf:=ao (Nf a6 bt);have I:=own.stored k (Iz V);clear bp a7 hV a6 a0 bt a2 hA hT;go_wp2_with fail;refine(wI _ _ _ _ ae ae ae).mono ?_;rintro e w'⟨rfl,m,rfl⟩;rw[SM.h];go_wp2_with fail;go_roundw
    case rel=>exact⟨k+1,ae,by go_num,by rw[<-bf.h,<-AG];exact nI I.1 m,below_drewN (O.grown I.2 O.size (fun j hj=>by cases hj;have:=HG.h;omega)) m⟩
    case measure=>simp[intOf];omega
   ·rw[if_neg t2] at a7
    rw[a7] at a6;have bf:=ao (QV a6 a0);clear bp a7 hV a6 a0 bt a2 hA hT;go_wp2_with fail;refine(wI _ _ _ _ ae ae ae).mono ?_;rintro e w'⟨rfl,m,rfl⟩;rw[SM.h];go_wp2_with fail;go_roundw
    case rel=>exact⟨k+1,ae,by go_num,bf.h▸nI own m,below_drewN O m⟩
    case measure=>simp[intOf];omega
  ·obtain rfl:k=l.length:=ae
   rw[Ng (HL.h▸af _) bT] at own;clear bc B1;go_wp2_with fail;obtain⟨wo,rfl⟩:=Zn wr
   go_loop [2,58] (fun s i=> ∃(k:Nat) (S:Int),k<=l.length/\i= Iz k/\s= Iz (q - S)/\Hid ((F.take k).sum=S)) (fun _ i=>l.length - (intOf i).toNat)
   case atStart=>exact⟨0,0,aB _,rfl,fE ae,rfl⟩
   case round=>
    obtain⟨k,S,eg,rfl,rfl,hS⟩:=hrel;have cF:=HS.h k;rw[hS.h] at cF
    by_cases cH:k<l.length
    ·obtain⟨x,hx⟩:∃x,F[k]?=some x:=⟨_,aj (HL.h▸cH)⟩
     have a5:=HF.h x (bF hx);have cv:wo.cell? ⟨g,k,none⟩=some (Iz x):=by
      rw[own.cellAt k ae];exact xn hx
     have cd:=tE hx;rw[hS.h] at cd;have ZS:=ao cd;have i1:(k:Int)<l.length:=ae;clear cd hx;go_wp2_with fail
     go_round
     case rel=>exact⟨k+1,S+x,ae,by go_num,fE ae,ZS⟩
     case measure=>simp[intOf];omega
    ·have cQ:F.take k=F:=aL (by rw[HL.h];omega)
     rw[cQ] at hS;have cS:=d3.h;rw[hS.h] at cS;have bE:=d4.h;rw[hS.h] at bE;obtain⟨D,hD⟩:=Zn (iJ l F);have cT:D.length=l.length:=by rw[hD,iO HL.h.symm]
     have bV:∀(k:Nat) (x y:Int),l[k]?=some x->F[k]?=some y->D[k]?=some (x - y):=fun k x y h h'=>hD▸xj h h';have cf:=ct.h;rw[<-hD] at bE cf;obtain⟨b0,d7,cX,c0⟩:=mh bE cT bV cf;have own':wo.ownsRow w.heap.size 2 1 (.slice (some ⟨g,0,none⟩) l.length l.length) l.length (bZ (R.take 0++F.drop 0)):=by simpa using own
     obtain⟨r,hr⟩:=Zn (q - S);have d8:0<=r/\r<=q:=ae;rw[<-hr] at b0⊢;clear cQ bE cT bV cf hD cS cF hS hr own;go_wp2_with fail
     go_loopw [2,68] (fun s i wr=> ∃k:Nat,k<=l.length/\i= Iz k/\s= Iz (mU (D.take k) r)/\wr.ownsRow w.heap.size 2 1 (.slice (some ⟨g,0,none⟩) l.length l.length) l.length (bZ (R.take k++F.drop k))/\Bz w wr) (fun _ i _=>l.length - (intOf i).toNat)
     case atStart=>exact⟨0,aB _,rfl,rfl,own',O⟩
     case round=>
      obtain⟨j,hj,rfl,rfl,ax,bH⟩:=hrel;clear own';have d9:=Ho (D.take j) r (fun n hn=>(c0 n (mT hn)).1) d8.1
      by_cases bh:j<l.length
      ·obtain⟨b,o,x,rfl,b9,a2,hx⟩:=hA.jK bh
       have hc:=Yb bH b9 a2;have a5:=HB.h x (bF hx.h);obtain⟨y,hy⟩:∃y,F[j]?=some y:=⟨_,aj (HL.h▸bh)⟩;have ei:=HF.h y (bF hy);have ck:=cX.h j x y hx.h hy;have ek:=c0.h _ (bF ck);have cv:wr.cell? ⟨g,j,none⟩=some (Iz y):=by
        rw[ax.cellAt j ae];exact xn (by rw[QU (bb.h▸bh) (bb.trans HL.symm),hy])
       have d6:Fz wr g j:=ax.frozenAt j;have i1:(j:Int)<l.length:=ae;obtain⟨z,ez⟩:=Zn (mU (D.take j) r);rw[<-ez] at d9;obtain⟨bQ,bR⟩:=za ck r;rw[<-ez] at bQ bR⊢;obtain⟨mn,cl,el,eo⟩:∃mn,mn=min (x - y) z/\0<=mn/\mn<=z:=⟨_,rfl,ae,ae⟩;rw[<-cl] at bQ bR;have dc:(cD D r)[j]?=some mn:=by
        have e1:(cD D r).take (j+1)=cD (D.take (j+1)) r:=vN D r (j+1);rw[bQ] at e1;have e2:((cD D r).take (j+1))[j]?=some mn:=by
         rw[e1,bK (by rw[fF,bJ];omega),fF,bJ];have:j - min j D.length=0:=cA d7.h;rw[this];rfl
        rwa [gB ae] at e2
       have dp:R[j]?=some (y+mn):=b0.h▸xi hy dc;obtain⟨bf,E2⟩:=dF (Nf dp (bb.trans HL.symm)) bR;have eb:min (x - y) z=mn:=cl.symm;clear bQ bR dc dp hy ck ez cl a2 hA;have ep:mn<=1000000:=ae;go_wp2_with fail
       go_quiet (fail)
       have I:=(nI ax nq).stored j (Iz (y+mn));have ea:=below_drewN bH nq;go_wp2_with fail;go_roundw
       case rel=>exact⟨j+1,ae,by go_num,fE (cA E2.h),by rw[<-bf.h,<-AG];exact I.1,ea.grown I.2 bH.size (fun i hi=>by cases hi;have:=HG.h;omega)⟩
       case measure=>simp[intOf];omega
      ·have ej:R.take j++F.drop j=R:=Ng (by rw[bb.h];omega) (by rw[HL.h];omega)
       rw[ej] at ax;clear ej;go_wp2_with fail;go_ret;exact kR.mk bb.symm ax bH
def Xk (ps:List Nat):List Value:=ps.map fun p:Nat=>Value.int .i64 p
theorem Wg (h:Cells w A (Xk ps)) (D:k<ps.length):
  ∃(b o p:Nat),A=some ⟨b,o,none⟩/\b<w.heap.size/\w.cell? ⟨b,o+k,none⟩=some (Iz (p:Int))/\Hid (ps[k]?=some p):=by
 obtain⟨b,o,u,rfl,I,hc,hu⟩:=h.Wa (k:=k) (by simp[Xk];exact D);have:=hu.h;simp only[Xk,bo,Vg] at this;obtain⟨p,hp,rfl⟩:=this;exact⟨b,o,p,rfl,I,hc,hp⟩
theorem AH (A1 A2:Option Addr) (n c1 c2:Nat) (l a:List Int) (least q:Int) (B:Nat) (w:World) (hn:l.length=n) (bE:a.length=n) (hlen:n<=250) (hb:∀m∈l,1<=m/\m<=1000000) (ha:∀m∈a,0<=m/\m<=1000000) (cd:∀m∈iJ l a,0<=m)
  (hq:0<=q) (bH:q<=(iJ l a).sum) (h1:1<=least) (hA:Cells w A1 (bZ l)) (own:w.ownsRow B 2 1 (.slice A2 n c2) n (bZ a)):
  Wz 182 #[.slice A1 n c1, .slice A2 n c2,Iz least,Iz q] w fun e w'=>
   e= .returned (.slice A2 n c2)/\w'.ownsRow B 2 1 (.slice A2 n c2) n (bZ (pF a (Au (iJ l a) least q)))/\w.grownBy w' (Value.slice A2 n c2).ownBlock:=by
 subst hn;have cT:=wH l a bE.symm;have cf:(gQ l a).sum=(iJ l a).sum:=by rw[cT,Ax _ cd]
 have eo:=Ao l a;have ck:=Eb l a (fun m hm=>(hb m hm).2) (fun m hm=>(ha m hm).1);have hr:eh (gQ l a) q=true:=(iC _ _).2 ⟨ae,hq,ck,cf▸bH⟩;have ba:=Ko bE.symm cd hq bH h1;have cm:=kT (gQ l a) least q;have cn:∀x∈Au (gQ l a) least q,0<=x/\x<=1000000:=Wc ae (fun m hm=>cA (ck m hm)) hq (cf▸bH) h1;obtain⟨bl,ct⟩:=Zn (Au (gQ l a) least q);have bV:=rW 0 l a;have b0:=Ec 0 l a;rw[<-ct] at ba cm cn;rw[<-ba];have cX:=Cells.O own;obtain⟨L2,HB,HA,HR,ea,bQ,eb,bb,c0⟩:=QG bE hb ha hr ct cm cn bV b0;clear cT cf ck hr ba cm cn bV b0 bE hb ha cd ct bH
 go_enter Tryz.func182,Tryz.ntmps182
 go_wp2_with fail
 go_loopw [9,10,16] (fun vl va i wr=> ∃(j N:Nat) (Al Aa cl ca:_),j<=l.length/\i= Iz j/\vl= .slice Al N cl/\va= .slice Aa N ca/\Hid (N=(gQ (l.take j) (a.take j)).length)/\wr.ownsRow w.heap.size 2 1 (.slice Al N cl) N (bZ (gQ (l.take j) (a.take j)))/\
   wr.ownsRow w.heap.size 3 1 (.slice Aa N ca) N (Xk (eH 0 (l.take j) (a.take j)))/\Bz w wr) (fun _ _ i _=>l.length - (intOf i).toNat)
 case atStart=>exact⟨0,0,none,none,0,0,aB _,rfl,rfl,rfl,rfl,aM _ _ _ _,aM _ _ _ _,aa _ _⟩
 case round=>
  obtain⟨j,N,Al,Aa,cl,ca,hj,rfl,rfl,rfl,EN,ax,I,D⟩:=hrel;have dc:(gQ (l.take j) (a.take j)).length<=j:=aF (Ao _ _) (nA _ _);have ep:N<=j:=EN.h▸dc;have dp:=D.size;clear dc
  by_cases ay:j<l.length
  ·obtain⟨b1,o1,n,rfl,cv,a6,hn⟩:=hA.jK (k:=j) ay
   obtain⟨b2,o2,x,ed,cF,a7,hx⟩:=cX.jK (k:=j) (L2.h▸ay);subst ed;have ef:=Yb D cv a6;have eg:=Yb D cF a7;have er:=HB.h n (bF hn.h);have et:=HA.h x (bF hx.h);have i1:(j:Int)<l.length:=ae;obtain⟨t1,t2⟩:=N6 L2.symm hn.h hx.h
   by_cases h2:x<n
   ·rw[if_pos h2] at t1 t2
    obtain⟨T1,T2⟩:=dF t1 t2;have d1:decide (x<n)=true:=iW;have eu:IntKind.i64.wrap (n - x)=n - x:=aN _ ae;have g1:=Hr D (af _) cv a6;have g2:=Hr D (af _) cF a7;clear t1 t2;go_wp2_with fail
    go_quiet (fail)
    have g3:=fun u (hu:Below w.heap.size (wr.drewN nq).drew u)=>g1 u ⟨hu.os,hu.tape,hu.output,hu.size,hu.block⟩;have g4:=fun u (hu:Below w.heap.size (wr.drewN nq).drew u)=>g2 u ⟨hu.os,hu.tape,hu.output,hu.size,hu.block⟩;clear g1 g2;have dS:=below_drewN D nq;have a0:=nI ax nq;have a2:=nI I nq;have dT:w.heap.size<=(wr.drewN nq).heap.size:=dp;clear D ax I dp
    generalize wr.drewN nq=wn at*
    go_upto_region 7 with(fail)
    refine Zb w.heap.size 99999 [10,11] [0,1,2,3,4,5,6,7,8,9,10,11,12] ?_;refine Yt ?_;clear g3 g4;refine Ym fun K hK=>?_;refine Yo hK (Kt dT _) ?_;refine Zm fun K hK=>?_;refine QP Ed (F5 (a0.alloc _)) (news:=[Iz (n - x)]) _ _ rfl rfl rfl rfl (Cells.lit wn #[Iz (n - x)] 2).drew (by simp[Value.oneCell']) ae iW (N+1) (bZ (gQ (l.take (j+1)) (a.take (j+1)))) rfl (by rw[T2.h];simp[bZ]) ?_;intro A4 c4 w4 p4;have B4:=p4.below _ _ (af _) (aS (au dS (.cells #[Iz (n - x)] 2)));have bc:=uQ (F5 (a2.alloc (.cells #[Iz (n - x)] 2))) p4.grown (Ak a2 a0 (by decide));refine Yo hK (p4.below _ _ (af _) (aa _ _)) ?_;refine Yt ?_;refine aT ?_;have bf:=p4.own;have d2:=B4.size;clear p4 a0 a2 dS
    go_wp2_with (at_builtin;refine mN Vp bc (Iz (j:Int)) rfl _ _ rfl rfl rfl rfl ae d2 ?_;intro Ap cp wp d3 gp bp)
    have cH:=uQ bf gp (Ak bf bc (by decide));go_roundw
    case rel=>exact⟨j+1,N+1,A4,Ap,c4,cp,ae,by go_num,rfl,rfl,by have:=EN.h;rw[T2.h];simp[Hid];exact this,cH,by rw[T1.h];simpa[Xk] using d3,bp _ _ (af _) B4⟩
    case measure=>simp[intOf];omega
   ·rw[if_neg h2,fe] at t1 t2
    obtain⟨T1,T2⟩:=dF t1 t2;have d1:decide (x<n)=false:=iW;clear t1 t2;go_wp2_with fail
    go_quiet (fail)
    go_wp2_with fail;go_roundw
    case rel=>exact⟨j+1,N,Al,Aa,cl,ca,ae,by go_num,rfl,rfl,T2.h▸EN,T2.h▸nI ax _,T1.h▸nI I _,below_drewN D _⟩
    case measure=>simp[intOf];omega
  ·have e1:l.take j=l:=aL ae
   have e2:a.take j=a:=aL (by rw[L2.h];omega);rw[e1,e2] at ax I EN;clear e1 e2;have el:=ay;clear ay;have d4:N=(gQ l a).length:=EN;have d5:=Cells.O ax;have d6:=Cells.O I;have b7:=bP own D;have ew:=fun b (hb:b<w.heap.size)=>mM I hb;have cQ:=own.lt;clear ax own;have a8:=ao d4;clear d4;go_wp2_with fail;refine(Oj Al _ cl (gQ l a) least q _ a8.symm HR h1 d5).mono ?_;rw[<-ea.h];intro e w6 h;obtain⟨A6,c6,rfl,b8,d7, -, -,bh⟩:=h.n (bQ.trans a8.symm);clear h;have B6:=dW D bh;have a5:=bP b7 bh;have b9:=d6.below bh;have cS:=bP I bh;have Ol:=Ak cS a5 (by decide);have ei:∀g',(Value.slice A6 N c6).ownBlock=some g'->some g'≠(Value.slice A2 l.length c2).ownBlock:=fun g' h' h=>jE ((cQ g' h.symm).2) ((b8.lt g' h').1);have ej:w.grownBy w6 (Value.slice A2 l.length c2).ownBlock:=⟨B6.os,B6.tape,B6.output,B6.size,fun k hk _=>B6.block k hk⟩;clear b7 bh D d5 d6 I b8;go_wp2_with fail
   go_loopw [50] (fun i wr=> ∃j:Nat,j<=N/\i= Iz j/\wr.ownsRow B 2 1 (.slice A2 l.length c2) l.length (bZ (iz a ((eH 0 l a).take j) (bl.take j)))/\
     w6.grownBy wr (Value.slice A2 l.length c2).ownBlock/\Hid (∀x∈iz a ((eH 0 l a).take j) (bl.take j),0<=x/\x<=1000000*((j:Int)+1))) (fun i _=>N - (intOf i).toNat)
   case atStart=>exact⟨0,aB _,rfl,by simpa[iz] using a5,tu _ _,by simpa[iz,Hid] using HA.h⟩
   case round=>
    obtain⟨j,hj,rfl,J,bR,bU⟩:=hrel;clear a5
    by_cases ay:j<N
    ·obtain⟨b1,o1,p,rfl,cv,a6,hp⟩:=Wg b9 (k:=j) (bb.h▸a8.h▸ay)
     have ey:=c0.h p (bF hp.h);obtain⟨b2,o2,y,rfl,cF,a7,hy⟩:=d7.jK (k:=j) (bQ.h▸a8.h▸ay);have ez:=eb.h y (bF hy.h);have eA:p<l.length:=cA L2.h;obtain⟨g,rfl,eB,eC⟩:=kz J ae;have lt:=Kn (a:=a) (by rw[bb.h,bQ.h]) hp.h hy.h;obtain⟨cur,bt⟩:=Zn (iz a ((eH 0 l a).take j) (bl.take j));rw[<-bt] at J bU lt;have ek:cur.length=l.length:=by rw[bt,xh];exact L2
     obtain⟨u,hu⟩:∃u,cur[p]?=some u:=⟨_,aj ae⟩;have eD:=bU.h u (bF hu);have d8:cur.getD p 0=u:=by simp[List.getD,hu]
     rw[d8] at lt;have eE:wr.cell? ⟨g,p,none⟩=some (Iz u):=by
      rw[J.cellAt p ae];exact xn hu
     have eF:Fz wr g p:=J.frozenAt p;have ef:=bR.cell a6 (fun h=>Ol b1 rfl (by simpa[Value.ownBlock] using h));have eg:=bR.cell a7 (fun h=>ei b2 rfl (by simpa[Value.ownBlock] using h));have LT:=ao lt;have i1:(p:Int)<l.length:=ae;have i2:(j:Int)<N:=ae;have i3:(0:Int)<=p:=ae;have d9:=J.stored p (Iz (u+y));clear lt bt hu d8 ek b9 d7 hA cX;go_wp2_with fail;go_roundw
     case rel=>
      refine⟨j+1,ae,by go_num,?_,bR.trans d9.2,?_⟩
      ·rw[LT.h];simpa[bZ,Vk] using d9.1
      ·rw[LT.h]
       intro x hx;rcases uO hx with h|rfl
       ·have:=bU.h x h
        omega
       ·omega
     case measure=>simp[intOf];omega
    ·have e1:(eH 0 l a).take j=eH 0 l a:=aL (by rw[bb.h,<-a8.h];omega)
     have e2:bl.take j=bl:=aL (by rw[bQ.h,<-a8.h];omega);rw[e1,e2] at J;clear e1 e2 bU;go_wp2_with fail;go_ret;exact⟨rfl,J,ej.trans bR⟩
def nD (part q:Int):Int:=q*part / 100
def qN (l:List Int) (part least q:Int):List Int:=
 if eh l q=true∧0≤part∧part≤100∧1≤least then pF (cD l (nD part q)) (Au (iJ l (cD l (nD part q))) least (q - nD part q)) else []
structure QW (l:List Int) (k q:Int):Prop where
 k0:0≤k
 kq:k≤q
 right:eh l k=true
 len:(cD l k).length=l.length
 bd:∀m∈cD l k,0≤m∧m≤1000000
 sub:∀m∈iJ l (cD l k),0≤m∧m≤1000000
 total:(cD l k).sum=k
 sum:(iJ l (cD l k)).sum=l.sum - k
theorem QX {k:Int} (hr:eh l q=true) (k0:0<=k) (kq:k<=q):QW l k q:=by
 obtain⟨hlen,hq,hb,ax⟩:=(iC l q).1 hr;have I:∀n∈l,0<=n:=fun n hn=>cA (hb n hn);have hs:=wt I k0 ae;have hl:=fF l k;have each:∀(i:Nat) (x:Int),(cD l k)[i]?=some x->∃n,l[i]?=some n/\0<=x/\x<=n/\n<=1000000:=fun i x hx=>by
  have D:=aO hx;rw[hl] at D;have hn:=aj D;have O:=uS I k0 hx hn;have h2:=hb _ (nv D);exact⟨_,hn,O.1,O.2,h2.2⟩
 refine⟨k0,kq,(iC l _).2 ⟨hlen,k0,hb,ae⟩,hl,?_,?_,hs,by rw[qY _ _ hl.symm,hs]⟩
 ·intro m hm
  obtain⟨i,hi⟩:=aG hm;obtain⟨n,_,O,h2,h3⟩:=each i m hi;omega
 ·intro m hm
  obtain⟨i,hi⟩:=aG hm;simp only[iJ,gz] at hi
  cases hx:l[i]? with
  |none=>simp[hx] at hi
  |some n=>
   cases hy:(cD l k)[i]? with
   |none=>simp[hx,hy] at hi
   |some y=>
    simp[hx,hy] at hi;obtain⟨n',J,O,h2,h3⟩:=each i y hy;rw[hx] at J
    cases J
    omega
theorem Hv (hq:0<=q) (D:0<=part) (I:part<=100):0<=nD part q/\nD part q<=q:=by
 have J:0<=q*part:=jG hq D;have O:q*part<=q*100:=gh I hq;unfold nD;omega
theorem Nh (hr:eh l q=true) (D:0<=part) (I:part<=100):QW l (nD part q) q:=by
 have hq:=((iC l q).1 hr).2.1;have:=Hv hq D I;exact QX hr this.1 this.2
theorem Kw (hq:0<=q) (J:q<=250000000) (D:0<=part) (I:part<=100):pH q part 100= .returned (.tuple #[Iz (nD part q), .bool true]):=by
 have h:=Hv hq D I;unfold nD at h⊢;rw[tF ae,told,FY (sg ae),sg ae]
theorem Om (A:Option Addr) (n c:Nat) (l:List Int) (part least q:Int) (w:World) (hn:l.length=n) (hl:l.length<=9223372036854775807) (hA:Cells w A (bZ l)) (D:¬(eh l q=true/\0<=part/\part<=100/\1<=least)):
  Wz 170 #[.slice A n c,Iz part,Iz least,Iz q] w (rV w 2 []):=by
 subst hn;have I:eh l q=false\/(eh l q=true/\(decide (part<0)=true\/(decide (part<0)=false/\(decide (100<part)=true\/(decide (100<part)=false/\decide (least<1)=true))))):=by
  cases hr:eh l q
  ·exact .inl rfl
  ·refine .inr ⟨rfl,?_⟩
   by_cases J:part<0
   ·exact .inl (by simpa using J)
   ·refine .inr ⟨by simpa using J,?_⟩
    by_cases O:100<part
    ·exact .inl (by simpa using O)
    ·refine .inr ⟨by simpa using O,?_⟩
     by_cases h3:least<1
     ·simpa using h3
     ·exact(D ⟨hr,ae,ae,ae⟩).elim
 clear D;rcases I with hr|⟨hr,d|⟨d1,d|⟨d2,d3⟩⟩⟩
 all_goals
  have HR:=ao hr;clear hr
  go_enter Tryz.func170,Tryz.ntmps170
  go_wp2_with fail;refine(lL _ _ _ l q _ rfl hl hA).mono ?_;rintro e w'⟨rfl,rfl⟩;rw[HR.h];go_wp2;go_ret;exact kR.nil _ _ _
theorem Ky (A:Option Addr) (n c:Nat) (l:List Int) (part least q:Int) (w:World) (hn:l.length=n) (hl:l.length<=9223372036854775807) (hA:Cells w A (bZ l)):
  Wz 170 #[.slice A n c,Iz part,Iz least,Iz q] w (rV w 2 (qN l part least q)):=by
 unfold qN
 by_cases ay:eh l q=true/\0<=part/\part<=100/\1<=least
 ·rw[if_pos ay]
  subst hn;obtain⟨hr,a6,a7,h1⟩:=ay;obtain⟨hlen,hq,hb,bc⟩:=(iC l q).1 hr;obtain⟨k0,kq,kr,I,a0,J,ax,O⟩:=Nh hr a6 a7;have bf:q<=250000000:=by
   have:=(xg l (fun n hn=>by have:=hb n hn;omega:∀n∈l,0<=n/\n<=1000000)).2;omega
  have a5:=Kw hq bf a6 a7;obtain⟨K,hK⟩:=Zn (nD part q);rw[<-hK] at k0 kq kr I a0 J ax O a5⊢;obtain⟨F,hF⟩:=Zn (cD l K);rw[<-hF] at I a0 J ax O⊢;have a8:q - K<=(iJ l F).sum:=by rw[O];omega
  obtain⟨HR,HB,KR,D,bh,ba,bp,HF,bt⟩:=QG hr hb kr I a0 J a5 hF a8;have d1:decide (part<0)=false:=iW;have d2:decide (100<part)=false:=iW;have d3:decide (least<1)=false:=iW;clear hr hb kr I a0 J ax O a5 hK hF a8 bc
  go_enter Tryz.func170,Tryz.ntmps170
  go_wp2_with fail;refine(lL _ _ _ l q _ rfl hl hA).mono ?_;rintro e w'⟨rfl,rfl⟩;rw[HR.h];go_wp2_with fail;refine(wI _ _ _ _ ae ae ae).mono ?_;rintro e w'⟨rfl,m,rfl⟩;rw[bp.h];go_wp2_with fail;refine(Ee A _ c l K _ rfl (hA.drewN m) KR).mono ?_;rw[<-HF.h];intro e w2 h;obtain⟨A2,c2,rfl,a2, -, -, -,bE⟩:=h.n D;have B2:=dW (below_drewN (aa w.heap.size w) m) bE;have bH:=hA.below B2;clear h hA;go_wp2_with fail;refine(AH _ _ _ _ _ l F least (q - K) _ _ rfl D hlen HB bh (fun m hm=>(ba m hm).1) ae bt h1 bH a2).mono ?_;rintro e w4⟨rfl,bb,bQ⟩;go_wp2;go_ret;refine kR.mk (by rw[mO (by rw[kT,iO D.h.symm];exact D)];exact D.symm) bb ?_;exact B2.grown bQ B2.size (fun i hi=>(a2.lt i hi).1)
 ·rw[if_neg ay]
  exact Om A n c l part least q w hn hl hA ay
def nK (l:List Int) (top most q:Int):Int:=if 0≤top∧top<l.length then min (l.getD top.toNat 0) (min most q) else 0
def dM (l:List Int) (top most q:Int):List Int:=if 0≤top∧top<l.length then (List.replicate l.length 0).set top.toNat (nK l top most q) else List.replicate l.length 0
def oI (l:List Int) (top most least q:Int):List Int:=
 if eh l q=true∧1≤least∧0≤most then pF (dM l top most q) (Au (iJ l (dM l top most q)) least (q - nK l top most q)) else []
theorem mz (l:List Int) (top D q:Int):(dM l top D q).length=l.length:=by unfold dM;split<;>simp
structure Xl (l:List Int) (top most q:Int):Prop where
 k0:0≤nK l top most q
 kq:nK l top most q≤q
 kb:nK l top most q≤1000000
 bd:∀m∈dM l top most q,0≤m∧m≤1000000
 sub:∀m∈iJ l (dM l top most q),0≤m∧m≤1000000
 sum:(iJ l (dM l top most q)).sum=l.sum - nK l top most q
theorem zg:∀(n i:Nat) (v:Int),i<n->((List.replicate n (0:Int)).set i v).sum=v
 |0,i,v,h=>ae
 |n+1,0,v,h=>by simp[Xg]
 |n+1,i+1,v,h=>by
  have D:=zg n i v ae;simp[Xg,D]
theorem QY {D:Int} (hb:∀n∈l,1<=n/\n<=1000000) (hq:0<=q) (hm:0<=D):Xl l top D q:=by
 by_cases h:0<=top/\top<l.length
 ·have J:top.toNat<l.length:=ae
  have hg:l.getD top.toNat 0=l[top.toNat]:=by simp[List.getD,aj J]
  have a0:=hb _ (nv J);have ek:nK l top D q=min l[top.toNat] (min D q):=by rw[nK,if_pos h,hg]
  have O:dM l top D q=(List.replicate l.length 0).set top.toNat (nK l top D q):=by rw[dM,if_pos h]
  have k0:0<=nK l top D q:=by rw[ek];omega
  have kb:nK l top D q<=1000000:=by rw[ek];omega
  have kl:nK l top D q<=l[top.toNat]:=by rw[ek];omega
  have kq:nK l top D q<=q:=by rw[ek];omega
  have bd:∀m∈dM l top D q,0<=m/\m<=1000000:=by
   rw[O];intro m hm;rcases uO hm with h1|rfl
   ·obtain⟨_,rfl⟩:=tx.1 h1
    decide
   ·exact⟨k0,kb⟩
  refine⟨k0,kq,kb,bd,?_,?_⟩
  ·intro m hm
   obtain⟨i,hi⟩:=aG hm;simp only[iJ,gz] at hi
   cases hx:l[i]? with
   |none=>simp[hx] at hi
   |some x=>
    cases I:(dM l top D q)[i]? with
    |none=>simp[hx,I] at hi
    |some y=>
     simp[hx,I] at hi;have ax:=hb x (aH hx);rw[O,List.getElem?_set] at I
     split at I
     ·rename_i he
      subst he
      split at I
      ·have h1:l[top.toNat]=x:=by rw[aj J] at hx;exact bW hx
       have h2:=bW I;omega
      ·cases I
     ·simp only[gM] at I
      split at I
      ·have h2:=bW I
       omega
      ·cases I
  ·rw[qY _ _ (mz _ _ _ _).symm,O,zg _ _ _ J]
 ·have ek:nK l top D q=0:=by rw[nK,if_neg h]
  have O:dM l top D q=List.replicate l.length 0:=by rw[dM,if_neg h]
  have z:(List.replicate l.length (0:Int)).sum=0:=bT;refine⟨ae,ae,ae,?_,?_,?_⟩
  ·rw[O]
   intro m hm;obtain⟨_,rfl⟩:=tx.1 hm
   decide
  ·rw[O]
   intro m hm;obtain⟨i,hi⟩:=aG hm;simp only[iJ,gz,gM] at hi
   cases hx:l[i]? with
   |none=>simp[hx] at hi
   |some x=>
    have ay:=aO hx;rw[hx,if_pos ay] at hi;simp only[gf] at hi;have ax:=hb x (aH hx);have a2:x - 0=m:=by simpa using hi
    omega
  ·rw[qY _ _ (mz _ _ _ _).symm,O,z,ek]
theorem On (A:Option Addr) (n c:Nat) (l:List Int) (top D least q:Int) (w:World) (hn:l.length=n) (O:l.length<=9223372036854775807) (hA:Cells w A (bZ l)) (I:¬(eh l q=true/\1<=least/\0<=D)):
  Wz 169 #[.slice A n c,Iz top,Iz D,Iz least,Iz q] w (rV w 2 []):=by
 subst hn
 cases hr:eh l q
 ·have J:=ao hr
  clear hr I
  go_enter Tryz.func169,Tryz.ntmps169
  go_wp2_with fail;refine(lL _ _ _ l q _ rfl O hA).mono ?_;rintro e w'⟨rfl,rfl⟩;rw[J.h];go_wp2;go_ret;exact kR.nil _ _ _
 ·have J:=ao hr
  rcases dec (least<1) with⟨h1,d1⟩|⟨h1,d1⟩
  ·clear hr I
   go_enter Tryz.func169,Tryz.ntmps169
   go_wp2_with fail;refine(lL _ _ _ l q _ rfl O hA).mono ?_;rintro e w'⟨rfl,rfl⟩;rw[J.h];go_wp2;go_ret;exact kR.nil _ _ _
  ·rcases dec (D<0) with⟨h2,d2⟩|⟨h2,d2⟩
   ·clear hr I
    go_enter Tryz.func169,Tryz.ntmps169
    go_wp2_with fail;refine(lL _ _ _ l q _ rfl O hA).mono ?_;rintro e w'⟨rfl,rfl⟩;rw[J.h];go_wp2;go_ret;exact kR.nil _ _ _
   ·exact(I ⟨hr,ae,ae⟩).elim
theorem Kz (A:Option Addr) (n c:Nat) (l:List Int) (top D least q:Int) (w:World) (hn:l.length=n) (hl:l.length<=9223372036854775807) (hA:Cells w A (bZ l)):
  Wz 169 #[.slice A n c,Iz top,Iz D,Iz least,Iz q] w (rV w 2 (oI l top D least q)):=by
 unfold oI
 by_cases ay:eh l q=true/\1<=least/\0<=D
 ·rw[if_pos ay]
  subst hn;obtain⟨hr,h1,h2⟩:=ay;obtain⟨hlen,hq,hb,bt⟩:=(iC l q).1 hr;obtain⟨k0,kq,kb,bd,sub,sum⟩:=QY (top:=top) hb hq h2;have a5:=mz l top D q;have a0:0<=top/\top<l.length->∃(t:Nat) (x:Int),top=t/\t<l.length/\l[t]?=some x/\nK l top D q=min x (min D q)/\dM l top D q=(List.replicate l.length 0).set t (nK l top D q):=fun h=>by
   have a6:top.toNat<l.length:=ae;refine⟨top.toNat,l[top.toNat],ae,a6,aj a6,?_,by rw[dM,if_pos h]⟩;rw[nK,if_pos h];simp[List.getD,aj a6]
  have a2:¬(0<=top/\top<l.length)->nK l top D q=0/\dM l top D q=List.replicate l.length 0:=fun h=>by rw[nK,dM,if_neg h,if_neg h];exact⟨rfl,rfl⟩
  obtain⟨F,hF⟩:=Zn (dM l top D q);obtain⟨K,hK⟩:=Zn (nK l top D q);rw[<-hF] at bd sub sum a5 a0 a2⊢;rw[<-hK] at k0 kq kb sum a0 a2⊢;obtain⟨HR,HB,BD,a8,b9,J,bE,bH⟩:=Dw hr hb bd sub sum a5 a0 a2;have cd:q<=250000000:=by
   have:=(xg l (fun n hn=>by have:=hb n hn;omega:∀n∈l,0<=n/\n<=1000000)).2;omega
  have hw:wrap64 (q - K)=q - K:=by unfold wrap64;omega
  have ba:q - K<=(iJ l F).sum:=by rw[sum];omega
  have bb:=ao ba;clear hr hb bd sub sum a5 a0 a2 hF hK ba bt;have d1:decide (least<1)=false:=iW;have d2:decide (D<0)=false:=iW
  go_enter Tryz.func169,Tryz.ntmps169
  go_wp2_with fail;refine(lL _ _ _ l q _ rfl hl hA).mono ?_;rintro e w'⟨rfl,rfl⟩;rw[HR.h]
  go_upto_region 3 with(fail)
  go_cut [11] (fun v wx=> ∃g,v= .slice (some ⟨g,0,none⟩) l.length l.length/\g=w.heap.size/\g<wx.heap.size/\wx.ownsRow w.heap.size 2 1 (.slice (some ⟨g,0,none⟩) l.length l.length) l.length (bZ (List.replicate l.length 0))/\Bz w wx)
  case first=>
   go_wp2_with (at_make;refine wpList_mk Ed (n:=l.length) rfl _ _ rfl rfl rfl rfl ae ?_;intro w1 I g1 b1)
   have bQ:=(I.lt w.heap.size rfl).2;go_meet;exact⟨w.heap.size,rfl,rfl,bQ,by simpa[bZ] using I,b1 _ _ (af _) (aa w.heap.size w)⟩
  obtain⟨g,rfl,hg,cf,I,B1⟩:=hcut;have HG:=ao hg;clear hg
  by_cases ht:0<=top/\top<l.length
  ·obtain⟨t,x,rfl,bc,hx,hk,hf⟩:=bE.h ht
   obtain⟨b,o,x',rfl,bR,bf,bU⟩:=hA.jK bc;obtain rfl:x=x':=bW (hx.symm.trans bU.h);have hc:=Yb B1 bR bf;have ck:wc.cell? ⟨g,t,none⟩=some (Iz 0):=by
    rw[I.cellAt t ae];exact xn (by simp[bc])
   have cl:Fz wc g t:=I.frozenAt t;have i1:(t:Int)<l.length:=ae;have O:=I.stored t (Iz K);rw[AG,<-hf] at O;have b8:min x (min D q)=K:=hk.symm;have bV:min (min x D) q=K:=by rw[hk];omega
   have b0:(if q<(if D<x then D else x) then q else (if D<x then D else x))=K:=by rw[hk];split<;>split<;>omega
   have cm:=HB.h x (bF hx);clear hk hf hx bf ht;go_wp2_with fail;refine(AH _ _ _ _ _ l F least (q - K) w.heap.size _ rfl J hlen HB BD (fun m hm=>(a8 m hm).1) ae bb h1 ((hA.below B1).grown O.2 (fun b' o' h=>by cases h;have:=HG.h;intro h2;cases h2;omega)) O.1).mono ?_;rintro e w4⟨rfl,ax,a7⟩;go_wp2;go_ret;refine kR.mk (by rw[mO (by rw[kT,iO J.h.symm];exact J)];exact J.symm) ax ?_;exact(B1.grown O.2 B1.size (fun i hi=>by cases hi;have:=HG.h;show _<=g;omega)).grown a7 (jE B1.size O.2.size) (fun i hi=>by cases hi;have:=HG.h;show _<=g;omega)
  ·obtain⟨hk,hf⟩:=bH.h ht
   rw[<-hf] at I;have b2:=hA.below B1;have bh:K=0:=hk;have b7:=ao bh;clear hk hf bh;have bp:(decide (0<=top)=false)\/(decide (0<=top)=true/\decide (top<(l.length:Int))=false):=by
    by_cases h:0<=top
    ·exact .inr ⟨by simpa using h,iW⟩
    ·exact .inl (by simpa using h)
   clear ht;rcases bp with d3|⟨d3,d4⟩
   all_goals
    go_wp2_with fail;rw[show q=q - K by have:=b7.h;omega];refine(AH _ _ _ _ _ l F least (q - K) w.heap.size _ rfl J hlen HB BD (fun m hm=>(a8 m hm).1) ae bb h1 b2 I).mono ?_;rintro e w4⟨rfl,ax,a7⟩;go_wp2;go_ret;refine kR.mk (by rw[mO (by rw[kT,iO J.h.symm];exact J)];exact J.symm) ax ?_;exact B1.grown a7 B1.size (fun i hi=>by cases hi;have:=HG.h;show _<=g;omega)
 ·rw[if_neg ay]
  exact On A n c l top D least q w hn hl hA ay
structure Ord where
 id:Int
 side:Int
 ag:Int
 aw:Int
 top:Bool
variable {S:List Ord}
def Ord.cells (o:Ord):List Value:=[Iz o.id,Iz o.side,Iz o.ag,Iz o.aw, .bool o.top]
def flat (l:List Ord):List Value:=l.flatMap Ord.cells
theorem Hw (l:List Ord):(flat l).length=l.length*5:=by
 induction l with
 |nil=>rfl
 |cons x l D=>simp[flat,Ord.cells] at D⊢;omega
theorem Ni:∀{l:List Ord} {i:Nat} {x:Ord},l[i]?=some x->∀(j:Nat) (v:Value),x.cells[j]?=some v->(flat l)[i*5+j]?=some v
 |[],i,x,h,_,_,_=>by simp at h
 |y::l,0,x,h,j,v,hv=>by
  simp at h;subst h;have J:j<y.cells.length:=(az.1 hv).1;simp only[flat,bj,kp,ec];rw[bX J,hv]
 |y::l,i+1,x,h,j,v,hv=>by
  have D:=Ni (l:=l) (i:=i) (by simpa using h) j v hv;have I:y.cells.length=5:=rfl;simp only[flat,bj] at D⊢;rw[bK (by rw[I];omega),I,(ae:(i+1)*5+j - 5=i*5+j),D]
theorem Cells.KA {l:List Ord} (h:Cells w A (flat l)) (I:k<l.length):
  ∃b o x,A=some ⟨b,o,none⟩/\b<w.heap.size/\w.cell? ⟨b,o+k*5,none⟩=some (Iz x.id)/\w.cell? ⟨b,o+k*5+1,none⟩=some (Iz x.side)/\w.cell? ⟨b,o+k*5+2,none⟩=some (Iz x.ag)/\w.cell? ⟨b,o+k*5+3,none⟩=some (Iz x.aw)/\w.cell? ⟨b,o+k*5+4,none⟩=some (.bool x.top)/\Hid (l[k]?=some x):=by
 have D:flat l≠[]:=by intro J;have:=Hw l;rw[J] at this;simp at this;omega
 obtain⟨b,o,rfl,O,hc⟩:=h D;have hx:l[k]?=some l[k]:=aj I;have hf:=fun j v hj=>hc _ _ (Ni hx j v hj);exact⟨b,o,l[k],rfl,O,hf 0 _ rfl,hf 1 _ rfl,hf 2 _ rfl,hf 3 _ rfl,hf 4 _ rfl,hx⟩
def lT (l:List Ord):List Int:=l.map Ord.aw
theorem Hx (l:List Ord):(lT l).length=l.length:=by simp[lT]
theorem Oo {l:List Ord} {x:Ord} (h:l[k]?=some x):(lT l).take (k+1)=(lT l).take k++[x.aw]:=by
 have:(lT l)[k]?=some x.aw:=by simp[lT,h]
 exact dN this
def td:List Ord→Int
 |[]=> -1
 |o::l=>if o.top=true then 0 else (if td l<0 then -1 else td l+1)
theorem Oq {l:List Ord}:∀{k:Nat} {x:Ord},l[k]?=some x->x.top=true->(∀(i:Nat) (y:Ord),i<k->l[i]?=some y->y.top=false)->td l=k:=by
 induction l with
 |nil=>intro k x h;simp at h
 |cons o l J=>
  intro k x h I D;rcases k with _|k
  ·simp at h;subst h;simp[td,I]
  ·have O:=D 0 o ae rfl
   have:=J (k:=k) (by simpa using h) I fun i y hi hy=>D (i+1) y ae (by simpa using hy);simp[td,O,this];omega
theorem Ot {l:List Ord} (h:∀(i:Nat) (y:Ord),l[i]?=some y->y.top=false):td l= -1:=by
 induction l with
 |nil=>rfl
 |cons o l D=>
  have I:=h 0 o rfl;have:=D fun i y J=>h (i+1) y (by simpa using J);simp[td,I,this]
def kg (rule top least part:Int) (l:List Ord) (q:Int):List Int:=
 if rule=1 then yo (lT l) q else if rule=2 then oI (lT l) (td l) top least q else if rule=3 then qN (lT l) part least q else []
theorem OZ (x:Ord) (w:World):Wz 168 #[.agg #[Iz x.id,Iz x.side,Iz x.ag,Iz x.aw, .bool x.top]] w fun e w'=>e= .returned (.bool x.top)/\Bz w w':=by
 go_enter Tryz.func168,Tryz.ntmps168
 go_wp2_with fail;go_ret;exact⟨rfl,(aa _ _).alloc (af _) _⟩
theorem Ui (A:Option Addr) (n c:Nat) (l:List Ord) (w:World) (hn:l.length=n) (hl:l.length<=9223372036854775807) (hA:Cells w A (flat l)):
  Wz 167 #[.slice A n c, .func (.func 168) #[] #[]] w fun e w'=>e= .returned (Iz (td l))/\Bz w w':=by
 subst hn
 go_enter Tryz.func167,Tryz.ntmps167
 go_wp2_with fail
 go_loopw [8] (fun i wr=> ∃k:Nat,k<=l.length/\i= Iz k/\Hid (∀(i:Nat) (y:Ord),i<k->l[i]?=some y->y.top=false)/\Bz w wr) (fun i _=>l.length - (intOf i).toNat)
 case atStart=>exact⟨0,aB _,rfl,fun i y h=>ae,aa _ _⟩
 case round=>
  obtain⟨k,hk,rfl,O,D⟩:=hrel
  by_cases ax:k<l.length
  ·obtain⟨b,o,x,rfl,hb,c0,c1,c2,c3,c4,hx⟩:=(hA.below D).KA ax
   have i1:(k:Int)<l.length:=ae;clear hA;go_wp2_with fail;refine(OZ x wr).mono ?_;rintro e w1⟨rfl,I⟩;have B1:=dW D I;obtain⟨t,et⟩:=Zn x.top;rw[<-et];have ET:=ao et;clear et I c0 c1 c2 c3 c4
   cases t
   ·go_wp2_with fail
    go_roundw
    case rel=>
     refine⟨k+1,ae,by go_num,fun i y hi J=>?_,B1⟩
     by_cases ay:i=k
     ·subst ay
      have:=hx.h;rw[J] at this
      cases this
      exact ET.symm
     ·exact O i y ae J
    case measure=>simp[intOf];omega
   ·go_wp2_with fail
    go_ret;exact⟨jJ (Oq hx.h ET.symm O).symm,B1⟩
  ·obtain rfl:k=l.length:=ae
   go_wp2_with fail;go_ret;exact⟨jJ (Ot fun i y J=>O i y (az.1 J).1 J).symm,D⟩
theorem RH (w:World) (o:Obj):Value.slice (some ⟨w.heap.size+1,0,none⟩) 1 1= .slice (some ⟨(w.alloc o).heap.size,0,none⟩) 1 1:=bT
theorem K7 (r:Int):r=1\/r=2\/r=3\/((r==1)=false/\(r==2)=false/\(r==3)=false/\r≠1/\r≠2/\r≠3):=by
 by_cases D:r=1
 ·exact .inl D
 ·by_cases I:r=2
  ·exact .inr (.inl I)
  ·by_cases J:r=3
   ·exact .inr (.inr (.inl J))
   ·exact .inr (.inr (.inr ⟨by simpa using D,by simpa using I,by simpa using J,D,I,J⟩))
theorem O2 (pc ms ti lo hi wi se:Value) (ru top le pa:Int) (A:Option Addr) (n c:Nat) (l:List Ord) (q:Int) (w:World) (hn:l.length=n) (hl:l.length<=9223372036854775807) (bb:l.length<=1000000000000) (hA:Cells w A (flat l)):
  Wz 142 #[.agg #[pc,ms,ti,lo,hi,wi,Iz ru,Iz top,Iz le,Iz pa,se], .slice A n c,Iz q] w (rV w 2 (kg ru top le pa l q)):=by
 subst hn;obtain⟨w0,J⟩:=Zn (w.alloc (.cells #[pc,ms,ti,lo,hi,wi,Iz ru,Iz top,Iz le,Iz pa,se] 25));obtain⟨g,eg⟩:=Zn w.heap.size;have k6:w0.cell? ⟨g,6,none⟩=some (Iz ru):=by rw[J,mS _ _ _ _ eg];rfl
 have k7:w0.cell? ⟨g,7,none⟩=some (Iz top):=by rw[J,mS _ _ _ _ eg];rfl
 have k8:w0.cell? ⟨g,8,none⟩=some (Iz le):=by rw[J,mS _ _ _ _ eg];rfl
 have k9:w0.cell? ⟨g,9,none⟩=some (Iz pa):=by rw[J,mS _ _ _ _ eg];rfl
 have B0:Bz w w0:=J▸(aa _ _).alloc (af _) _;have hg:g<w0.heap.size:=kQ w0 _ k6;have a0:=hA.below B0;have a2:(lT l).length=l.length:=Hx l;clear hA
 go_enter Tryz.func142,Tryz.ntmps142
 go_wp2_with fail;rw[<-J,<-eg];clear J eg
 go_loopw [7,13] (fun v i wr=> ∃k:Nat,k<=l.length/\i= Iz k/\wr.ownsRow w0.heap.size 2 1 v k (bZ ((lT l).take k))/\Bz w0 wr) (fun _ i _=>l.length - (intOf i).toNat)
 case atStart=>exact⟨0,aB _,rfl,aM _ _ _ _,aa _ _⟩
 case round=>
  obtain⟨k,hk,rfl,own,D⟩:=hrel;have hs:=D.size
  by_cases a7:k<l.length
  ·obtain⟨b,o,x,rfl,hb,c0,c1,c2,c3,c4,hx⟩:=(a0.below D).KA a7
   have i1:(k:Int)<l.length:=ae;have hq:=ao (Oo hx.h);clear a0 k6 k7 k8 k9
   go_wp2_with (at_builtin;refine mN Ed (own.alloc _) (Iz x.aw) rfl _ _ rfl rfl (RH wr _) rfl ae iW ?_;intro A4 c4 w4 a5 _ a8)
   go_roundw
   case rel=>exact⟨k+1,ae,by go_num,by rw[hq.h];simpa[bZ] using a5,a8 _ _ (af _) (au D _)⟩
   case measure=>simp[intOf];omega
  ·obtain rfl:k=l.length:=ae
   rw[aL ae] at own;obtain⟨A',c',rfl,_⟩:=gD own;have hC:=Cells.O own;have a6:=a0.below D;have e6:=Yb D hg k6;have e7:=Yb D hg k7;have e8:=Yb D hg k8;have e9:=Yb D hg k9;have BR:=dW B0 D;have OWN:=ao own;clear a0 k6 k7 k8 k9 own;rcases K7 ru with rfl|rfl|rfl|⟨r1,r2,r3,hr⟩
   ·rw[show kg 1 top le pa l q=yo (lT l) q by simp[kg]]
    go_wp2_with fail;refine(N8 A' _ c' (lT l) q _ a2 ae hC).mono ?_;rintro e w2⟨A2,c2,rfl,I,ax,h1,h2,hb⟩;go_wp2_with fail;go_ret;exact⟨A2,c2,rfl,ch I BR.size,ax,h1,h2,dW BR hb⟩
   ·rw[show kg 2 top le pa l q=oI (lT l) (td l) top le q by simp[kg]]
    go_wp2_with fail;refine(Ui A _ c l _ rfl hl a6).mono ?_;rintro e w1⟨rfl,ay⟩;have f7:=(ay.cell (kQ wr _ e7)).trans e7;have f8:=(ay.cell (kQ wr _ e8)).trans e8;have ba:=hC.below ay;have B1:=dW BR ay;clear hC a6 e6 e7 e8 e9 ay;go_wp2_with fail;refine(Kz A' _ c' (lT l) (td l) top le q _ a2 ae ba).mono ?_;rintro e w2⟨A2,c2,rfl,I,ax,h1,h2,hb⟩;go_wp2_with fail;go_ret;exact⟨A2,c2,rfl,ch I B1.size,ax,h1,h2,dW B1 hb⟩
   ·rw[show kg 3 top le pa l q=qN (lT l) pa le q by simp[kg]]
    go_wp2_with fail;refine(Ky A' _ c' (lT l) pa le q _ a2 ae hC).mono ?_;rintro e w2⟨A2,c2,rfl,I,ax,h1,h2,hb⟩;go_wp2_with fail;go_ret;exact⟨A2,c2,rfl,ch I BR.size,ax,h1,h2,dW BR hb⟩
   ·have ea:kg ru top le pa l q=[]:=by simp[kg,hr.1,hr.2.1,hr.2.2]
    have EA:=ao ea;clear ea;have HR:=ao hr;clear hr;go_wp2_with fail;go_ret;have hF:rV w 2 [] (.returned (.slice none 0 0)) wr:=⟨none,0,rfl,aM _ _ _ _,Cells.nil _ _,af _,aB _,BR⟩;rw[EA.h];exact hF
structure YK (l:List Int) (least q:Int):Prop where
 len:(Au l least q).length=l.length
 sum:(Au l least q).sum=q
 at_:∀(i:Nat) (n:Int),l[i]?=some n→∃x,(Au l least q)[i]?=some x∧0≤x∧x≤n∧MZ l.sum q least n≤x
theorem VQ (J:∀n∈l,0<=n) (hq:0<=q) (D:q<=l.sum) (O:1<=least):YK l least q:=by
 have a0:=uT J hq D O;have I:=rZ (all:=l.sum) J hq D O;have ax:(iJ l (dQ l.sum q least l)).length=l.length:=iO (dU _ _ _ _).symm;have a2:=qY l (dQ l.sum q least l) (dU _ _ _ _).symm;refine⟨kT _ _ _,?_,fun i n hn=>?_⟩
 ·unfold Au
  rw[xk _ _ (by rw[fF,ax,dU]),wt I ae ae];omega
 ·have hf:=Eh (all:=l.sum) (q:=q) (least:=least) hn
  have hs:=xj hn hf;have ay:i<(cD (iJ l (dQ l.sum q least l)) (q - (dQ l.sum q least l).sum)).length:=by rw[fF];exact aO hs
  have hz:=aj ay;have a5:=uS I ae hz hs;have hv:=rX (all:=l.sum) (J n (bF hn)) hq D O;refine⟨_,xi hf hz,ae,ae,ae⟩
structure YL (l:List Int) (part least q:Int):Prop where
 len:(qN l part least q).length=l.length
 sum:(qN l part least q).sum=q
 at_:∀(i:Nat) (n:Int),l[i]?=some n→∃f x,(cD l (nD part q))[i]?=some f∧(qN l part least q)[i]?=some x∧0≤f∧f≤x∧x≤n
theorem XP (hr:eh l q=true) (J:0<=part) (O:part<=100) (h1:1<=least):YL l part least q:=by
 obtain⟨hlen,hq,hb,a7⟩:=(iC l q).1 hr;obtain⟨k0,kq,kr,D,a5,ax,ay,a0⟩:=Nh hr J O;have I:=VQ (least:=least) (q:=q - nD part q) (fun m hm=>(ax m hm).1) ae (by rw[a0];omega) h1;have a2:=iO D.symm;have hp:qN l part least q=pF (cD l (nD part q)) (Au (iJ l (cD l (nD part q))) least (q - nD part q)):=by rw[qN,if_pos ⟨hr,J,O,h1⟩]
 refine⟨?_,?_,fun i n hn=>?_⟩
 ·rw[hp,mO (by rw[I.len,a2,D]),D]
 ·rw[hp,xk _ _ (by rw[I.len,a2,D]),I.sum,ay];omega
 ·have hi:=aO hn
  have hf:(cD l (nD part q))[i]?=some (cD l (nD part q))[i]:=aj ae;have a6:=a5 _ (nv (by omega:i<(cD l (nD part q)).length));obtain⟨x,hx,x0,x1,_⟩:=I.at_ i _ (xj hn hf);exact⟨_,_,hf,hp▸xi hf hx,a6.1,ae,ae⟩
structure YM (l:List Int) (top most least q:Int):Prop where
 len:(oI l top most least q).length=l.length
 sum:(oI l top most least q).sum=q
 at_:∀(i:Nat) (n:Int),l[i]?=some n→∃x,(oI l top most least q)[i]?=some x∧0≤x∧x≤n
 top:∀(t:Nat) (n:Int),top=t→l[t]?=some n→∃x,(oI l top most least q)[t]?=some x∧min n (min most q)≤x
theorem XQ {D:Int} (hr:eh l q=true) (h1:1<=least) (hm:0<=D):YM l top D least q:=by
 obtain⟨hlen,hq,hb,a5⟩:=(iC l q).1 hr;obtain⟨k0,kq,kb,bd,sub,sum⟩:=QY (top:=top) hb hq hm;have I:=mz l top D q;have O:=iO I.symm;have J:=VQ (least:=least) (q:=q - nK l top D q) (fun m hm=>(sub m hm).1) ae (by rw[sum];omega) h1;have hp:oI l top D least q=pF (dM l top D q) (Au (iJ l (dM l top D q)) least (q - nK l top D q)):=by rw[oI,if_pos ⟨hr,h1,hm⟩]
 have ay:(dM l top D q).sum=nK l top D q:=cA (qY l _ I.symm);have each:∀(i:Nat) (n:Int),l[i]?=some n->∃f x,(dM l top D q)[i]?=some f/\(oI l top D least q)[i]?=some x/\0<=f/\f<=x/\x<=n:=by
  intro i n hn;have hi:=aO hn;have hf:(dM l top D q)[i]?=some (dM l top D q)[i]:=aj ae;have a0:=bd _ (nv (by omega:i<(dM l top D q).length));obtain⟨x,hx,x0,x1,_⟩:=J.at_ i _ (xj hn hf);exact⟨_,_,hf,hp▸xi hf hx,a0.1,ae,ae⟩
 refine⟨?_,?_,fun i n hn=>?_,fun t n ht hn=>?_⟩
 ·rw[hp,mO (by rw[J.len,O,I]),I]
 ·rw[hp,xk _ _ (by rw[J.len,O,I]),J.sum,ay];omega
 ·obtain⟨f,x,_,hx,h0,h2,h3⟩:=each i n hn
  exact⟨x,hx,ae,h3⟩
 ·obtain⟨f,x,hf,hx,h0,h2,h3⟩:=each t n hn
  refine⟨x,hx,?_⟩;have a2:=aO hn;have ax:0<=top/\top<l.length:=ae;have e:nK l top D q=min n (min D q):=by
   rw[nK,if_pos ax,ht];simp[List.getD,hn]
  have:f=nK l top D q:=by
   rw[dM,if_pos ax,ht,mD,aD (by simp;exact a2)] at hf;have:=bW hf;rw[ht];exact this.symm
  omega
structure YN (l:List Int) (X:List Int) (q:Int):Prop where
 len:X.length=l.length
 sum:X.sum=q
 at_:∀(i:Nat) (n:Int),l[i]?=some n→∃x,X[i]?=some x∧0≤x∧x≤n
theorem VR {ru le pa:Int} (hr:eh (lT S) q=true) (I:ru=1\/ru=2\/ru=3) (ht:0<=top) (hl:1<=le) (J:0<=pa) (O:pa<=100):YN (lT S) (kg ru top le pa S q) q:=by
 obtain⟨hlen,hq,hb,ax⟩:=(iC (lT S) q).1 hr;have D:∀n∈lT S,0<=n:=fun n hn=>cA (hb n hn);rcases I with rfl|rfl|rfl
 ·have e:kg 1 top le pa S q=cD (lT S) q:=by simp[kg,yo,hr]
  rw[e];refine⟨fF _ _,wt D hq ax,fun i n hn=>?_⟩;have hi:i<(cD (lT S) q).length:=by rw[fF];exact aO hn
  have hx:=aj hi;exact⟨_,hx,uS D hq hx hn⟩
 ·have e:kg 2 top le pa S q=oI (lT S) (td S) top le q:=by simp[kg]
  rw[e];have h:=XQ (top:=td S) hr hl ht;exact⟨h.len,h.sum,h.at_⟩
 ·have e:kg 3 top le pa S q=qN (lT S) pa le q:=by simp[kg]
  rw[e];have h:=XP (part:=pa) hr J O hl;exact⟨h.len,h.sum,fun i n hn=>by obtain⟨f,x,_,hx,h1,h2,h3⟩:=h.at_ i n hn;exact⟨x,hx,ae,h3⟩⟩
end Go.Proofs.YtbaaheidifacaaaGreat
