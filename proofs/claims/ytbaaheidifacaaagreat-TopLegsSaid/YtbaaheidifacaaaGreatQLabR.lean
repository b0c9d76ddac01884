import Derived.Test.YtbaaheidifacaaaGreatQElem8
import Derived.Test.YtbaaheidifacaaaGreatQRunesP
import Derived.Laws.RangeAny
import Derived.LoopTactic
set_option linter.defProp false
set_option linter.unusedVariables false
set_option linter.unusedSimpArgs false
set_option maxRecDepth 100000
set_option maxHeartbeats 12800000
namespace Go.Proofs.YtbaaheidifacaaaGreat
variable {P:Program} {b:Int} {l:List UInt8}
open Go.RowKit
theorem xR (w:World) (l:List UInt8) (pos:Nat) (h:pos<l.length):∀ty,(Instr.next (Pz w.heap.size) true ty).run P (w.iter (str l) pos)=
   .ok (.tuple #[.bool true,Iz pos, .int .i32 ((jb (l.drop pos)).1:Nat)]) (w.iter (str l) (pos+(jb (l.drop pos)).2)):=by
 intro ty;have:=run_next_any (P:=P) w (str l) pos ty (by rw[tM];exact h);rw[K8] at this;exact this
theorem pg (w:World) (l:List UInt8) (pos:Nat) (h:¬pos<l.length):∀ty,(Instr.next (Pz w.heap.size) true ty).run P (w.iter (str l) pos)= .ok (.tuple #[.bool false]) (w.iter (str l) pos):=by
 intro ty;exact run_next_end (P:=P) w (str l) pos ty (by rw[tM];exact h)
theorem RW (l:List UInt8) (w:World) (hl:l.length<=9223372036854775807):
  Wz 107 #[.string (str l)] w fun e w'=>e= .returned (.bool (Cd l))/\Bz w w':=by
 obtain⟨O,eO⟩:=Zn (Cd l);rw[<-eO];have HO:=ao eO;clear eO
 go_enter Tryz.func107,Tryz.ntmps107
 go_wp2
 go_loopw [3] (fun n wr=> ∃(pos k:Nat),wr=w.iter (str l) pos/\pos<=l.length/\k<=pos/\n= Iz k/\Hid (O=((jc (l.drop pos)).all (fun x=>E7 x.1) && decide (1<=k+(jc (l.drop pos)).length/\k+(jc (l.drop pos)).length<=12)))) (fun _ wr=>l.length - wr.iterPos w.heap.size)
 case atStart=>exact⟨0,0,rfl,aB _,af _,rfl,by show _=_;rw[HO.h];simp[Cd]⟩
 case round=>
  obtain⟨pos,k,rfl,hp,hk,rfl,H⟩:=hrel
  by_cases ax:pos<l.length
  ·have D:l.drop pos≠[]:=by
    intro h;have:=congrArg List.length h;rw[cu] at this;simp at this;omega
   have I:=xR (P:=Tryz.prog) w l pos ax;have a0:=xM _ D;have a2:=RI (l.drop pos);have hc:=zm D;obtain⟨wd,J⟩:=Zn ((jb (l.drop pos)).2);obtain⟨r,er⟩:=Zn ((jb (l.drop pos)).1);rw[cu,<-J] at a0;rw[<-er] at a2;rw[<-er,<-J] at I hc;rw[QC] at hc;rw[hc] at H;obtain⟨R,eR⟩:=Zn ((r:Int):Int);rw[<-eR] at I;clear hc er J D
   by_cases hg:E7 r=true
   ·have ay:=hg
    simp only[E7,vC,zR,decide_eq_false_iff_not,beq_eq_false_iff_ne,ne_eq] at ay;obtain⟨⟨g1,g2⟩,g3⟩:=ay;have a5:¬R<32:=ae;have a6:(R==127)=false:=iW;have a7:(R==65533)=false:=iW;have H2:Hid (O=((jc (l.drop (pos+wd))).all (fun x=>E7 x.1) && decide (1<=k+1+(jc (l.drop (pos+wd))).length/\k+1+(jc (l.drop (pos+wd))).length<=12))):=by
     show _=_;rw[H.h];simp only[List.all_cons,bI,hg,Bool.true_and]
     congr 1
     simp only[decide_eq_decide];omega
    clear H hg eR g1 g2 g3;have hw:IntKind.i64.wrap ((k:Int)+1)=(k:Int)+1:=aN _ ae;go_wp2;go_roundw
    case rel=>exact⟨pos+wd,k+1,rfl,ae,ae,by go_num,H2⟩
    case measure=>simp;omega
   ·have hO:O=false:=by rw[H.h];simp[hg]
    have hb:R<32\/(¬R<32/\R=127)\/(¬R<32/\¬R=127/\R=65533):=by
     simp[E7] at hg;omega
    clear H hg eR;subst hO;rcases hb with g1|⟨g1,rfl⟩|⟨g1,g2,rfl⟩
    ·go_wp2
     go_ret;exact⟨rfl,au (aa _ _) _⟩
    ·go_wp2
     go_ret;exact⟨rfl,au (aa _ _) _⟩
    ·go_wp2
     go_ret;exact⟨rfl,au (aa _ _) _⟩
  ·have I:=pg (P:=Tryz.prog) w l pos ax
   have hd:l.drop pos=[]:=aP (by rw[cu];omega);rw[hd,BV] at H;have hO:O=decide (1<=k/\k<=12):=by rw[H.h];simp
   clear H hd;subst hO
   by_cases h1:1<=k
   ·have i1:(1:Int)<=k:=ae
    by_cases h2:k<=12
    ·have i2:(k:Int)<=12:=ae
     go_wp2;go_ret;exact⟨pE (by simp;try omega),au (aa _ _) _⟩
    ·have i2:¬(k:Int)<=12:=ae
     go_wp2;go_ret;exact⟨pE (by simp;try omega),au (aa _ _) _⟩
   ·have i1:¬(1:Int)<=k:=ae
    go_wp2;go_ret;exact⟨pE (by simp;try omega),au (aa _ _) _⟩
theorem Pa (l:List UInt8) (w:World) (hl:l.length<=9223372036854775807):
  Wz 131 #[.string (str l)] w fun e w'=>e= .returned (Iz (wO l:Nat))/\Bz w w':=by
 obtain⟨O,eO⟩:=Zn (wO l);rw[<-eO];have HO:=ao eO;clear eO
 go_enter Tryz.func131,Tryz.ntmps131
 go_wp2
 go_loopw [3] (fun n wr=> ∃(pos k:Nat),wr=w.iter (str l) pos/\AtR l k pos/\n= Iz k) (fun _ wr=>l.length - wr.iterPos w.heap.size)
 case atStart=>exact⟨0,0,rfl,AtR.zero l,rfl⟩
 case round=>
  obtain⟨pos,k,rfl,A,rfl⟩:=hrel;have hp:=A.le;have hk:=A.Yu
  by_cases D:pos<l.length
  ·obtain⟨A2, -,ax,ay⟩:=A.step D
   have J:=xR (P:=Tryz.prog) w l pos D;obtain⟨wd,I⟩:=Zn ((jb (l.drop pos)).2);obtain⟨r,er⟩:=Zn ((jb (l.drop pos)).1);rw[<-I] at A2 ax ay;rw[<-er,<-I] at J;clear er I A;have hw:IntKind.i64.wrap ((k:Int)+1)=(k:Int)+1:=aN _ ae;go_wp2;go_roundw
   case rel=>exact⟨pos+wd,k+1,rfl,A2,by go_num⟩
   case measure=>simp;omega
  ·have J:=pg (P:=Tryz.prog) w l pos D
   obtain⟨hk, -⟩:=A.end_ D;have a0:k=O:=by rw[HO.h,hk];rfl
   clear A hk;go_wp2;go_ret;exact⟨by rw[a0];rfl,au (aa _ _) _⟩
theorem Cells.put {w:World} {b o:Nat} {l:List Int} (h:Cells w (some ⟨b,o,none⟩) (bZ l)) {j:Nat} {y:Int} (D:l[j]?=some y):w.cell? ⟨b,o+j,none⟩=some (Iz y):=by
 have hx:bZ l≠[]:=by
  intro e;have:l=[]:=by simpa[bZ] using e
  subst this;simp at D
 obtain⟨J,O,e,I,hc⟩:=h (by first|exact hx|exact List.ne_nil_iff_length_pos.1 hx|exact iu.2 hx);injection e with e;injection e with e1 e2;subst e1;subst e2;exact hc j _ (by unfold bZ;rw[bo,D];rfl)
def Ld (r:Nat):Bool:=(decide (65≤r) && decide (r≤90))||((decide (913≤r) && decide (r≤937)) && !(r==930))
theorem Cj (h:l=[206,169]\/l=[67,76]):(∀x∈jc l,Ld x.1=true)/\wO l<=4/\l≠[]:=by
 rcases h with rfl|rfl
 ·refine⟨?_,by decide,by decide⟩
  decide
 ·refine⟨?_,by decide,by decide⟩
  decide
theorem Jk (l:List UInt8) (w:World) (h:l=[206,169]\/l=[67,76]):
  Wz 92 #[.string (str l)] w fun e w'=>e= .returned (.bool true)/\Bz w w':=by
 obtain⟨hg,a0,a2⟩:=Cj h;have hl:l.length<=9223372036854775807:=by rcases h with rfl|rfl<;>decide
 obtain⟨C,eC⟩:=Zn (wO l);rw[<-eC] at a0;obtain⟨HC,HG,HH⟩:=fY eC hg h;clear eC hg h;have a5:(str l).toList.isEmpty=false:=by
  rw[wL]
  cases l with
  |nil=>exact absurd rfl a2
  |cons a b=>rfl
 go_enter Tryz.func92,Tryz.ntmps92
 go_wp2
 go_loopw [4] (fun n wr=> ∃(pos k:Nat),wr=w.iter (str l) pos/\AtR l k pos) (fun _ wr=>l.length - wr.iterPos w.heap.size)
 case atStart=>exact⟨0,0,rfl,AtR.zero l⟩
 case round=>
  obtain⟨pos,k,rfl,A⟩:=hrel;have hp:=A.le;have hk:=A.Yu
  by_cases I:pos<l.length
  ·obtain⟨A2,J,a6,a7⟩:=A.step I
   have O:=xR (P:=Tryz.prog) w l pos I;obtain⟨wd,ax⟩:=Zn ((jb (l.drop pos)).2);obtain⟨r,er⟩:=Zn ((jb (l.drop pos)).1);rw[<-ax] at A2 a6 a7;rw[<-er] at J;rw[<-er,<-ax] at O;have ay:=HG.h _ (aH J);clear A J;have D:((65:Int)<=r/\(r:Int)<=90)\/((90:Int)<r/\(913:Int)<=r/\(r:Int)<=937/\((r:Int) !=930)=true):=by
    simp[Ld] at ay;rcases ay with h|h
    ·exact .inl ⟨ae,ae⟩
    ·refine .inr ⟨ae,ae,ae,?_⟩
     simp;omega
   clear ay er ax;obtain⟨R,eR⟩:=Zn ((r:Int):Int);rw[<-eR] at O D;clear eR;rcases D with⟨g1,g2⟩|⟨g1,g2,g3,g4⟩
   ·go_wp2
    go_roundw
    case rel=>exact⟨pos+wd,k+1,rfl,A2⟩
    case measure=>simp;omega
   ·go_wp2
    go_roundw
    case rel=>exact⟨pos+wd,k+1,rfl,A2⟩
    case measure=>simp;omega
  ·have O:=pg (P:=Tryz.prog) w l pos I
   clear A;go_wp2_with fail;refine(Pa l _ hl).mono ?_;rintro e w1⟨rfl,b1⟩;rw[<-HC.h];have a8:decide ((C:Int)<=4)=true:=by rw[decide_eq_true_iff];omega
   clear a0;go_wp2_with fail;go_ret;exact⟨rfl,dW (au (aa _ _) _) b1⟩
theorem Le (A:Option Addr) (n c:Nat) (l:List Int) (w:World) (hn:l.length=n) (h2:2<=l.length) (h6:l.length<=6) (hm:∀m∈l,0<=m/\m<=1199) (hi:l.Pairwise (· < ·)) (hA:Cells w A (bZ l)):
  Wz 93 #[.slice A n c] w fun e w'=>e= .returned (.bool true)/\w=w':=by
 subst hn;have i1:(2:Int)<=l.length:=ae;have i2:(l.length:Int)<=6:=ae
 go_enter Tryz.func93,Tryz.ntmps93
 go_wp2
 go_loop [7] (fun i=> ∃k:Nat,k<=l.length/\i= Iz k) (fun i=>l.length - (intOf i).toNat)
 case atStart=>exact⟨0,aB _,rfl⟩
 case round=>
  obtain⟨k,hk,rfl⟩:=hrel
  by_cases D:k<l.length
  ·obtain⟨b,o,x,rfl,hb,hc,hx⟩:=hA.jK D
   have O:=hm x (aH hx.h)
   cases k with
   |zero=>
    have ax:Cz w b o (Iz x):=hc;clear hc hA;go_wp2
    go_round
    case rel=>exact⟨1,ae,by go_num⟩
    case measure=>simp[intOf];omega
   |succ j=>
    obtain⟨y,I⟩:∃y,l[j]?=some y:=⟨_,aj ae⟩;have ay:=hA.put I;have a0:y<x:=by
     have:=nz.1 hi j (j+1) ae D ae;rw[(az.1 I).2,(az.1 hx.h).2] at this;exact this
    have hw:IntKind.i64.wrap (((j+1:Nat):Int) - 1)=(j:Int):=by rw[(ae:((j+1:Nat):Int) - 1=(j:Int))];exact aN _ ae
    have J:(0:Int)<((j+1:Nat):Int):=ae;have HY:=ao I;clear hA hm hi I;go_wp2
    go_round
    case rel=>exact⟨j+1+1,ae,by go_num⟩
    case measure=>simp[intOf];omega
  ·obtain rfl:k=l.length:=ae
   go_wp2;go_ret;exact⟨rfl,rfl⟩
theorem zY (n t:Int) (g:Nat) (w:World) (hc:w.cell? ⟨g,2,none⟩=some (Iz t)) (D:1<=t) (hd:t∣n):
  Wz 132 #[Iz n, Pz g] w fun e w'=>e= .returned (.bool false)/\w=w':=by
 have hr:n.tmod t=0:=jk hd;have I:t≠0:=ae
 go_enter Tryz.func132,Tryz.ntmps132
 go_wp2;go_ret;exact⟨rfl,rfl⟩
theorem Lf (A:Option Addr) (n c g:Nat) (l:List Int) (t:Int) (w:World) (hn:l.length=n) (hl:l.length<=1000) (hc:w.cell? ⟨g,2,none⟩=some (Iz t)) (J:1<=t) (hd:∀x∈l,t∣x) (hA:Cells w A (bZ l)):
  Wz 159 #[.slice A n c, .func (.func 132) #[] #[Pz g]] w fun e w'=>e= .returned (Iz (-1))/\w=w':=by
 subst hn
 go_enter Tryz.func159,Tryz.ntmps159
 go_wp2_with fail
 go_loopw [8] (fun i wr=> ∃k:Nat,k<=l.length/\i= Iz k/\wr=w) (fun i _=>l.length - (intOf i).toNat)
 case atStart=>exact⟨0,aB _,rfl,rfl⟩
 case round=>
  obtain⟨k,hk,rfl,rfl⟩:=hrel
  by_cases D:k<l.length
  ·obtain⟨b,o,x,rfl,hb,O,hx⟩:=hA.jK D
   have I:=ao (hd x (aH hx.h));go_wp2_with fail;refine(zY x t g wr hc J I).mono ?_;rintro e w1⟨rfl,rfl⟩;go_wp2_with fail;go_roundw
   case rel=>exact⟨k+1,ae,by go_num,trivial⟩
   case measure=>simp[intOf];omega
  ·obtain rfl:k=l.length:=ae
   go_wp2_with fail;go_ret;simp
theorem Lg (A:Option Addr) (n c g:Nat) (l:List Int) (t:Int) (w:World) (hn:l.length=n) (D:l.length<=1000) (hc:w.cell? ⟨g,2,none⟩=some (Iz t)) (I:1<=t) (hd:∀x∈l,t∣x) (hA:Cells w A (bZ l)):
  Wz 133 #[.slice A n c, .func (.func 132) #[] #[Pz g]] w fun e w'=>e= .returned (.bool false)/\w=w':=by
 go_enter Tryz.func133,Tryz.ntmps133
 go_wp2_with fail;refine(Lf A n c g l t w hn D hc I hd hA).mono ?_;rintro e J⟨rfl,rfl⟩;go_wp2_with fail;go_ret;exact⟨rfl,rfl⟩
def Lh (m y:Int):Int:=if y<m then y else m
def Li (m y:Int):Int:=if m<y then y else m
def Wx:List Int→Int
 |[]=>0
 |x::l=>l.foldl Lh x
def Wy:List Int→Int
 |[]=>0
 |x::l=>l.foldl Li x
theorem Nz:∀{l:List Int} {x:Int},b<=x->(∀y∈l,b<=y)->b<=l.foldl Lh x
 |[],x,h,_=>h
 |y::l,x,h,D=>Nz (l:=l) (x:=Lh x y) (by have:=D y bT;unfold Lh;split<;>omega) fun z I=>D z (by simp[I])
theorem NA:∀{l:List Int} {x:Int},x<=b->(∀y∈l,y<=b)->l.foldl Li x<=b
 |[],x,h,_=>h
 |y::l,x,h,D=>NA (l:=l) (x:=Li x y) (by have:=D y bT;unfold Li;split<;>omega) fun z I=>D z (by simp[I])
theorem Up (A:Option Addr) (n c:Nat) (x:Int) (l:List Int) (w:World) (hn:l.length+1=n) (hl:l.length<=1000) (hA:Cells w A (bZ (x::l))):
  Wz 95 #[.slice A n c] w fun e w'=>e= .returned (Iz (Wx (x::l)))/\w=w':=by
 subst hn;obtain⟨b,o,x0,rfl,hb,D,I⟩:=hA.jK (k:=0) bT;obtain rfl:x=x0:=by have:=I.h;simpa using this
 have ay:Cz w b o (Iz x):=D;have i1:¬((l.length:Int)+1<1):=ae;have i0:(0:Int)<(l.length:Int)+1:=ae
 go_enter Tryz.func95,Tryz.ntmps95
 go_wp2
 go_loop [3,4] (fun m i=> ∃k:Nat,k<=l.length/\i= Iz ((k:Int)+1)/\m= Iz ((l.take k).foldl Lh x)) (fun _ i=>l.length+1 - (intOf i).toNat)
 case atStart=>exact⟨0,aB _,rfl,rfl⟩
 case round=>
  obtain⟨k,hk,rfl,rfl⟩:=hrel
  by_cases J:k<l.length
  ·obtain⟨y,O⟩:∃y,l[k]?=some y:=⟨_,aj J⟩
   have a0:=hA.put (j:=k+1) (y:=y) (by simpa using O);have ax:=ao O;obtain⟨m,em⟩:=Zn ((l.take k).foldl Lh x);rw[<-em];have EM:=ao em;clear em O hA;have a2:(k:Int)+1<(l.length:Int)+1:=ae;go_wp2
   go_round
   case rel=>exact⟨k+1,ae,by go_num,by rw[bC,ax.h];simp[EM.h,Lh]⟩
   case measure=>simp[intOf];omega
  ·obtain rfl:k=l.length:=ae
   rw[dE];go_wp2;go_ret;exact⟨rfl,rfl⟩
theorem Uq (A:Option Addr) (n c:Nat) (x:Int) (l:List Int) (w:World) (hn:l.length+1=n) (hl:l.length<=1000) (hA:Cells w A (bZ (x::l))):
  Wz 96 #[.slice A n c] w fun e w'=>e= .returned (Iz (Wy (x::l)))/\w=w':=by
 subst hn;obtain⟨b,o,x0,rfl,hb,D,I⟩:=hA.jK (k:=0) bT;obtain rfl:x=x0:=by have:=I.h;simpa using this
 have ay:Cz w b o (Iz x):=D;have i1:¬((l.length:Int)+1<1):=ae;have i0:(0:Int)<(l.length:Int)+1:=ae
 go_enter Tryz.func96,Tryz.ntmps96
 go_wp2
 go_loop [3,4] (fun m i=> ∃k:Nat,k<=l.length/\i= Iz ((k:Int)+1)/\m= Iz ((l.take k).foldl Li x)) (fun _ i=>l.length+1 - (intOf i).toNat)
 case atStart=>exact⟨0,aB _,rfl,rfl⟩
 case round=>
  obtain⟨k,hk,rfl,rfl⟩:=hrel
  by_cases J:k<l.length
  ·obtain⟨y,O⟩:∃y,l[k]?=some y:=⟨_,aj J⟩
   have a0:=hA.put (j:=k+1) (y:=y) (by simpa using O);have ax:=ao O;obtain⟨m,em⟩:=Zn ((l.take k).foldl Li x);rw[<-em];have EM:=ao em;clear em O hA;have a2:(k:Int)+1<(l.length:Int)+1:=ae;go_wp2
   go_round
   case rel=>exact⟨k+1,ae,by go_num,by rw[bC,ax.h];simp[EM.h,Li]⟩
   case measure=>simp[intOf];omega
  ·obtain rfl:k=l.length:=ae
   rw[dE];go_wp2;go_ret;exact⟨rfl,rfl⟩
end Go.Proofs.YtbaaheidifacaaaGreat
