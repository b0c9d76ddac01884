import Derived.Test.YtbaaheidifacaaaGreatQBase
import Derived.Test.YtbaaheidifacaaaGreatRows
set_option linter.defProp false
set_option linter.unusedVariables false
set_option linter.unusedSimpArgs false
set_option maxRecDepth 100000
set_option maxHeartbeats 12800000
namespace Go.Proofs.YtbaaheidifacaaaGreat
open Go.RowKit
theorem Tryz.TR:(Tryz.prog.info? 2).map (fun i=>(i.zero,i.size,i.bytes))=some (some (Iz 0),1,8):=by kernel_rfl
theorem Ed:xf Tryz.prog 23 2 (Iz 0) 8:=
 ⟨Tryz.underlying23,let ⟨i,h,D,I,J⟩:=info_parts Tryz.TR;⟨i,h,D,I,J⟩,rfl,ae⟩
theorem Tryz.MY:(Tryz.prog.info? 3).map (fun i=>(i.zero,i.size,i.bytes))=some (some (Iz 0),1,8):=by kernel_rfl
theorem Vp:xf Tryz.prog 22 3 (Iz 0) 8:=
 ⟨Tryz.underlying22,let ⟨i,h,D,I,J⟩:=info_parts Tryz.MY;⟨i,h,D,I,J⟩,rfl,ae⟩
theorem lL (A:Option Addr) (n cap:Nat) (l:List Int) (q:Int) (w:World) (hn:l.length=n) (hl:l.length<=9223372036854775807) (hA:Cells w A (bZ l)):
  Wz 181 #[.slice A n cap,Iz q] w fun e w'=>e= .returned (.bool (eh l q))/\w=w':=by
 subst hn
 by_cases hlen:l.length<=250
 ·by_cases hq:0<=q
  ·go_enter Tryz.func181,Tryz.ntmps181
   go_wp2
   go_loop [5,17] (fun s i=> ∃k:Nat,k<=l.length/\i= Iz k/\s= Iz (l.take k).sum/\(l.take k).all TQ=true) (fun _ i=>l.length - (intOf i).toNat)
   case atStart=>exact⟨0,aB _,rfl,rfl,rfl⟩
   case round=>
    obtain⟨k,hk,rfl,rfl,D⟩:=hrel;have ax:=QR _ D;have O:(l.take k).length<=k:=nA _ _
    by_cases J:k<l.length
    ·obtain⟨b,o,x,rfl,hb,hc,hx⟩:=hA.jK J
     go_wp2
     all_goals first
      |(go_ret;exact⟨pE (Km hx.h ae).symm,rfl⟩)
      |(go_round
        case rel=>exact⟨k+1,ae,by go_num,by rw[tE hx.h],by rw[Hm _ hx.h,D];simp[TQ];omega⟩
        case measure=>simp[intOf];omega)
    ·have I:l.take k=l:=aL ae
     have H:=ao I;clear I;go_wp2;go_ret;refine⟨pE ?_,rfl⟩;rw[H.h] at D⊢;simp[eh,D,hlen,hq]
  ·have ay:q<0:=ae
   go_enter Tryz.func181,Tryz.ntmps181
   go_wp2;go_ret;exact⟨pE (by simp[eh];omega),rfl⟩
 ·have a0:¬((l.length:Int)<=250):=ae
  go_enter Tryz.func181,Tryz.ntmps181
  go_wp2;go_ret;exact⟨pE (by simp[eh,hlen]),rfl⟩
theorem dg (n lo hi:Int) (w:World) (h1:lo<=hi) (h2: -1099511627776<=lo) (h3:hi<=1099511627776):
  Wz 25 #[Iz n,Iz lo,Iz hi] w fun e w'=>e= .returned (Iz (within n lo hi))/\w=w':=by
 have J:(0:Int)<hi - lo+1:=ae;have hz:((hi - lo+1)==0)=false:=iW;have D:=N5 n (hi - lo+1) J;have O:=MT n ((ae:hi - lo+1≠0));have ax:=DY n ((ae:0<hi - lo+1));have ay: -(hi - lo+1)<=n.tmod (hi - lo+1)/\n.tmod (hi - lo+1)<hi - lo+1:=by
  rcases He (n.tmod (hi - lo+1)) 0 with h|h
  ·have h4:=D.1 h
   omega
  ·have:=D.2 h
   omega
 have I:=ao D;clear D;unfold within
 go_enter Tryz.func25,Tryz.ntmps25
 go_wp2
 ·go_ret
  have:=I.h.1 (by assumption);refine⟨jJ ?_,rfl⟩;omega
 ·go_ret
  have:=I.h.2 (by assumption);exact⟨jJ ae,rfl⟩
theorem Ee (A:Option Addr) (n cap:Nat) (l:List Int) (q:Int) (w:World) (hn:l.length=n) (hA:Cells w A (bZ l)) (hr:eh l q=true):
  Wz 166 #[.slice A n cap,Iz q] w (rV w 2 (cD l q)):=by
 subst hn;have a5:=hr;simp only[eh,dv,decide_eq_true_eq] at a5;obtain⟨⟨⟨hlen,hq⟩,D⟩,bc⟩:=a5;have a6:∀n∈l,0<=n:=fun n hn=>cA ((uR n).1 (fN.1 D n hn));have bf:=(QR l D).2;have H1:=ao hr;clear hr;have H2:=ao D;clear D;have H3:=ao a6;clear a6
 go_enter Tryz.func166,Tryz.ntmps166
 go_wp2_with (go_at_call 181;refine(lL _ _ _ _ _ _ rfl ae hA).mono ?_;rintro e w'⟨rfl,rfl⟩;rw[H1.h])
 go_loopw [1,5,15] (fun s v i wr=> ∃k:Nat,k<=l.length/\i= Iz k/\s= Iz (mU (l.take k) q)/\wr.ownsRow w.heap.size 2 1 v k (bZ (cD (l.take k) q))/\Bz w wr)
  (fun _ _ i _=>l.length - (intOf i).toNat)
 case atStart=>exact⟨0,aB _,rfl,rfl,aM _ _ _ _,aa _ _⟩
 case round=>
  obtain⟨k,hk,rfl,rfl,I,J⟩:=hrel;have a8:=Ho (l.take k) q (fun n hn=>H3 n (mT hn)) hq
  by_cases ba:k<l.length
  ·obtain⟨b,o,x,rfl,hb,a7,hx⟩:=hA.jK ba
   have hc:=Yb J hb a7;have bh:=H3.h x (bF hx.h);have hs:=J.size;clear a7 hA;obtain⟨r,er⟩:=Zn (mU (l.take k) q);rw[<-er] at a8;obtain⟨O,ax⟩:=za hx.h q;rw[<-er] at O ax⊢;have Er:=ao er;clear er;have E1:=ao O;clear O;have E2:=ao ax;clear ax;obtain⟨mn,ay,bp,bt⟩:∃mn,mn=min x r/\0<=mn/\mn<=r:=⟨_,rfl,ae,ae⟩;rw[<-ay] at E1 E2;have HM:=ao ay;clear ay;have e2:mn=x\/(mn=r/\r<x):=cA HM.h;have hmx:mn<=x:=cA HM.h;rcases e2 with e2|⟨e2,e3⟩
   all_goals
    subst e2
    go_wp2_with (at_builtin;refine mN Ed I (Iz mn) rfl _ _ rfl rfl rfl rfl ae ae ?_;intro A' c' w1 a0 _ bb)
    go_roundw
    case rel=>exact⟨k+1,ae,by go_num,fE (cA E2.h),by rw[E1.h];simpa[bZ] using a0,bb _ _ (af _) J⟩
    case measure=>simp[intOf];omega
  ·have a2:l.take k=l:=aL ae
   rw[a2] at I;obtain rfl:k=l.length:=ae;have H:=ao a2;clear a2;obtain⟨A',c',rfl,_⟩:=gD I;go_wp2;go_ret;exact kR.mk (by simp[fF]) I J
theorem N8 (A:Option Addr) (n cap:Nat) (l:List Int) (q:Int) (w:World) (hn:l.length=n) (I:l.length<=9223372036854775807) (hA:Cells w A (bZ l)):
  Wz 166 #[.slice A n cap,Iz q] w (rV w 2 (yo l q)):=by
 subst hn;unfold yo
 by_cases hr:eh l q=true
 ·rw[if_pos hr];exact Ee A _ cap l q w rfl hA hr
 ·rw[if_neg hr]
  have D:eh l q=false:=by simpa using hr
  have H1:=ao D;clear D hr
  go_enter Tryz.func166,Tryz.ntmps166
  go_wp2_with (go_at_call 181;refine(lL _ _ _ _ _ _ rfl I hA).mono ?_;rintro e w'⟨rfl,rfl⟩;rw[H1.h])
  go_ret;exact kR.nil _ _ _
end Go.Proofs.YtbaaheidifacaaaGreat
