import Derived.Test.YtbaaheidifacaaaGreatQGrow
import Derived.Test.YtbaaheidifacaaaGreatQWire
set_option linter.defProp false
set_option linter.unusedVariables false
set_option linter.unusedSimpArgs false
set_option maxRecDepth 100000
set_option maxHeartbeats 12800000
namespace Go.Proofs.YtbaaheidifacaaaGreat
variable {A:Option Addr} {P:Program} {Q:Exit→Act→World→Prop} {base c d m n:Nat} {e t:TypeId} {news xs:List Value} {ops:Array Oper} {r:Option Nat} {rest:List Oper} {v z:Value} {w w':World}
open Go.RowKit
structure Rd where
 l:List UInt8
 bad:Bool
variable {s:Rd}
def Rd.uv (s:Rd) (n:Nat):List UInt8:=if s.bad=true∨s.l.length<n then [] else s.l.take n
def Rd.left (s:Rd) (n:Nat):Rd:=if s.bad=true∨s.l.length<n then ⟨s.l,true⟩ else ⟨s.l.drop n,false⟩
theorem Rd.uw (s:Rd) (n:Nat):(s.uv n).length<=n:=by
 unfold Rd.uv
 split<;>simp
 omega
theorem Rd.Ny (s:Rd) (n:Nat):mR (s.uv n)<256 ^ n:=aA (xO _) (zO ae (s.uw n))
structure cr (w:World) (d:Nat) (s:Rd):Prop where
 D:∃A c,w.heap[d]?=some (.cells #[.slice A s.l.length c, .bool s.bad] 266 (0,0))∧Cells w A (ij s.l)∧(∀a,A=some a→a.block<d)∧s.l.length≤c∧c≤9223372036854775807
theorem cr.keep (h:cr w d s) (hd:w'.heap[d]?=w.heap[d]?) (hb:w.heap.size<=w'.heap.size) (hc:∀b,b<w.heap.size->b≠d->∀A c k,w.heap[d]?=some (.cells #[.slice (some ⟨b,k,none⟩) s.l.length c,A] 266 (0,0))->w'.heap[b]?=w.heap[b]?):cr w' d s:=by
 obtain⟨A,c,J,h1,O,h3,h4⟩:=h.D;refine⟨⟨A,c,hd.trans J,h1.keep hb fun b o hA I k=>gK (hc b I (Nat.ne_of_lt (O ⟨b,o,none⟩ hA)) _ c o (by rw[J,hA])),O,h3,h4⟩⟩
theorem cr.lt (h:cr w d s):d<w.heap.size:=by
 obtain⟨A,c,I,_⟩:=h.D;exact(aU.1 I).1
theorem cr.below (h:cr w d s) (D:Bz w w'):cr w' d s:=
 h.keep (D.block d h.lt) D.size fun b I _ _ _ _ _=>D.block b I
theorem cr.other {I:Nat} (h:cr w d s) (J:Leaves I none w w') (ax:d<I):cr w' d s:=by
 obtain⟨A,c,h0,h1,O,h3,h4⟩:=h.D;exact⟨⟨A,c,(J.block d h.lt ae bT).trans h0,J.cells h1 (fun b o hA=>⟨by have:=O _ hA;simp only at this;omega,bT⟩),O,h3,h4⟩⟩
theorem cr.reads (h:cr w d s):
  ∃A c,w.heap[d]?=some (.cells #[.slice A s.l.length c, .bool s.bad] 266 (0,0))/\w.cell? ⟨d,0,none⟩=some (.slice A s.l.length c)/\w.cell? ⟨d,1,none⟩=some (.bool s.bad)/\w.frozen? ⟨d,0,none⟩=false/\w.frozen? ⟨d,1,none⟩=false/\
   Cells w A (ij s.l)/\(∀a,A=some a->a.block<d)/\s.l.length<=c/\c<=9223372036854775807:=by
 obtain⟨A,c,I,J,O,h3,h4⟩:=h.D;exact⟨A,c,I,by simp[World.cell?,I],by simp[World.cell?,I],by simp[World.frozen?,I],by simp[World.frozen?,I],J,O,h3,h4⟩
theorem Cells.set (h:Cells w A xs) (D:∀a,A=some a->a.block<d) (i:Nat) (u:Value):Cells (w.setCell ⟨d,i,none⟩ u) A xs:=
 h.keep (by simp[World.setCell]) fun b o hA _ k=>gK (av _ _ _ _ (Nat.ne_of_lt (D ⟨b,o,none⟩ hA)))
theorem DH (A:Option Addr) (n c:Nat) (l:List UInt8) (w:World) (hn:l.length=n) (O:n<=1099511627776) (hA:Cells w A (ij l)):
  Wz 120 #[.slice A n c] w fun e w'=> ∃d,e= .returned (Pz d)/\w.heap.size<=d/\cr w' d ⟨l,false⟩/\Bz w w':=by
 subst hn
 go_enter Tryz.func120,Tryz.ntmps120
 go_wp2_with fail;refine(uY A _ c l _ rfl O hA).mono ?_;rintro e w1⟨A1,c1,rfl,own,D,h1,h2,I⟩;go_wp2_with fail;go_ret;refine⟨_,rfl,I.size,⟨⟨A1,c1,heap_alloc_new _ _,D.alloc _,?_,h1,by unfold maxLen at h2;omega⟩⟩,I.alloc I.size _⟩;rintro⟨b,o,sp⟩ J;have h3:=own.lt b (by rw[J];rfl);show b<_;omega
theorem xQ (h:¬(s.bad=true\/s.l.length<n)):s.uv n=s.l.take n/\s.left n=⟨s.l.drop n,false⟩:=by
 unfold Rd.uv Rd.left;rw[if_neg h,if_neg h];exact⟨rfl,rfl⟩
theorem ux (h:s.bad=true\/s.l.length<n):s.uv n=[]/\s.left n=⟨s.l,true⟩:=by
 unfold Rd.uv Rd.left;rw[if_pos h,if_pos h];exact⟨rfl,rfl⟩
structure K9 (w:World) (d:Nat) (s':Rd) (w':World):Prop where
 at_:cr w' d s'
 leaves:Leaves d none w w'
theorem K9.next {D I:World} {s1 s2:Rd} (h:K9 w d s1 D) (J:K9 D d s2 I):K9 w d s2 I:=⟨J.at_,h.leaves.trans J.leaves (.inl rfl)⟩
def Jh (w:World) (d n:Nat) (s:Rd) (e:Ending) (w':World):Prop:=
 (∃A m c,e= .returned (.slice A m c)∧(s.uv n).length=m∧m≤c∧Cells w' A (ij (s.uv n))∧(∀a,A=some a→a.block<d))∧K9 w d (s.left n) w'
theorem cr.stored {v0 v1:Value} (I:w.heap[d]?=some (.cells #[v0,v1] 266 (0,0))) (hm:s.l.length=m) (hA:Cells w A (ij s.l)) (D:∀a,A=some a->a.block<d) (J:m<=c) (O:c<=9223372036854775807):
  ((v1= .bool s.bad->cr (w.setCell ⟨d,0,none⟩ (.slice A m c)) d s)/\(v0= .slice A m c->cr (w.setCell ⟨d,1,none⟩ (.bool s.bad)) d s)):=by
 subst hm;constructor
 ·rintro rfl
  exact⟨⟨A,c,by rw[heap_setCell_same _ _ _ _ _ _ I];rfl,hA.set D _ _,D,J,O⟩⟩
 ·rintro rfl
  exact⟨⟨A,c,by rw[heap_setCell_same _ _ _ _ _ _ I];rfl,hA.set D _ _,D,J,O⟩⟩
theorem Ji (d n:Nat) (N:Int) (s:Rd) (w:World) (hN:N=n) (h:cr w d s):
  Wz 156 #[Pz d,Iz N] w (Jh w d n s):=by
 subst hN;obtain⟨A,c,hb,c0,c1,f0,f1,hA,D,O,hc⟩:=h.reads;obtain⟨l,bad⟩:=s;simp only at hb c0 c1 hA O
 cases bad
 ·by_cases hn:l.length<n
  ·have fin:=(cr.stored (s:=⟨l,true⟩) hb rfl hA D O hc).2 rfl
   have i1:(l.length:Int)<n:=ae;have HA:=ao hA;clear h hA
   go_enter Tryz.func156,Tryz.ntmps156
   go_wp2_with fail;go_ret;unfold Jh;rw[(ux (s:=⟨l,false⟩) (.inr hn)).1,(ux (s:=⟨l,false⟩) (.inr hn)).2];exact⟨⟨none,0,0,rfl,rfl,af _,Cells.nil _ _,bT⟩,fin,(Leaves.refl _ _ _).setCell _ _⟩
  ·have a6:¬((⟨l,false⟩:Rd).bad=true\/(⟨l,false⟩:Rd).l.length<n):=iW
   have i1:¬(l.length:Int)<n:=ae;have a7:(⟨l.drop n,false⟩:Rd).l.length=l.length - n:=bT;have I:=hA.VO n c O;have a8:=hA.Nv n;have hlen:(l.take n).length=n:=iW;have T1:=(xQ a6).1;have T2:=(xQ a6).2;obtain⟨ba,bb,HL,ax,HB⟩:=rU T1 T2 a7 hlen hb;clear a7 T1 T2 hlen h hb hA;have i2:n<=l.length:=ae
   by_cases a2:c=n
   ·have J:Cells w A (ij (l.drop n)):=by rwa [if_pos a2] at I
    subst a2;have HC:=ao I;clear I
    go_enter Tryz.func156,Tryz.ntmps156
    go_wp2_with fail;go_ret;unfold Jh;rw[ba.h,bb.h];have a5:(w.setCell ⟨d,1,none⟩ (.bool false)).heap[d]?=some (.cells #[.slice A l.length c, .bool false] 266 (0,0)):=by rw[heap_setCell_same _ _ _ _ _ _ HB.h];rfl
    have fin:=(cr.stored (s:=⟨l.drop c,false⟩) (c:=0) a5 (m:=0) (by rw[HL.h];omega) (J.set D _ _) D (af _) ae).1 rfl;exact⟨⟨A,c,c,rfl,ax,af _,(a8.set D _ _).set D _ _,D⟩,fin,((Leaves.refl _ _ _).setCell _ _).setCell _ _⟩
   ·have J:Cells w (A.map (·.add n)) (ij (l.drop n)):=by rwa [if_neg a2] at I
    have HC:=ao I;clear I
    go_enter Tryz.func156,Tryz.ntmps156
    go_wp2_with fail;go_ret;unfold Jh;rw[ba.h,bb.h];have a5:(w.setCell ⟨d,1,none⟩ (.bool false)).heap[d]?=some (.cells #[.slice A l.length c, .bool false] 266 (0,0)):=by rw[heap_setCell_same _ _ _ _ _ _ HB.h];rfl
    have ay:∀a,A.map (·.add n)=some a->a.block<d:=by
     intro a ha;rcases A with _|a0
     ·simp at ha
     ·simp at ha;subst ha
      have:=D a0 rfl;unfold Addr.add
      split<;>exact this
    have fin:=(cr.stored (s:=⟨l.drop n,false⟩) (c:=c - n) a5 (m:=l.length - n) HL (J.set ay _ _) ay ae ae).1 rfl;exact⟨⟨A,n,c,rfl,ax,ae,(a8.set D _ _).set D _ _,D⟩,fin,((Leaves.refl _ _ _).setCell _ _).setCell _ _⟩
 ·have fin:=(cr.stored (s:=⟨l,true⟩) hb rfl hA D O hc).2 rfl
  have HA:=ao hA;clear h hA
  go_enter Tryz.func156,Tryz.ntmps156
  go_wp2_with fail;go_ret;unfold Jh;rw[(ux (s:=⟨l,true⟩) (n:=n) (.inl rfl)).1,(ux (s:=⟨l,true⟩) (n:=n) (.inl rfl)).2];exact⟨⟨none,0,0,rfl,rfl,af _,Cells.nil _ _,bT⟩,fin,(Leaves.refl _ _ _).setCell _ _⟩
theorem Ul (acc k:Nat) (x:UInt8) (hk:k<8) (h:acc<256 ^ k):
  bits .or .u64 (acc:Int) (IntKind.u64.wrap (IntKind.u64.wrap (x.toNat:Int)*2 ^ (8*k)))=((acc+x.toNat*256 ^ k:Nat):Int):=by
 have hx:=x.toNat_lt;have e1:IntKind.u64.wrap (x.toNat:Int)=((x.toNat:Nat):Int):=by rw[gL];omega
 have e2:(256:Nat) ^ k=2 ^ (8*k):=by rw[Nat.pow_mul]
 have h7:(256:Nat) ^ k<=256 ^ 7:=zO ae ae;have D:(256:Nat) ^ 7=72057594037927936:=by decide
 have hp:x.toNat*256 ^ k<=255*256 ^ k:=iR _ ae;have I:((x.toNat:Nat):Int)*2 ^ (8*k)=((x.toNat*256 ^ k:Nat):Int):=by
  rw[e2];push_cast;rfl
 rw[e1,I];have J:IntKind.u64.wrap ((x.toNat*256 ^ k:Nat):Int)=((x.toNat*256 ^ k:Nat):Int):=by
  rw[gL];omega
 rw[J,u64_or_nat _ _ ae ae];have O:acc|||x.toNat*256 ^ k=acc+x.toNat*256 ^ k:=by
  rw[Nat.or_comm,nat_join (8*k) _ _ (e2▸Nat.mul_mod_left _ _) (e2▸h),Vi]
 rw[O]
def Ys (k:IntKind) (w:World) (d:Nat) (n:Int) (s':Rd) (e:Ending) (w':World):Prop:=e= .returned (.int k n)∧K9 w d s' w'
theorem Gp (d size:Nat) (sz:Int) (s:Rd) (w:World) (O:sz=size) (hs:size<=8) (h:cr w d s):
  Wz 155 #[Pz d,Iz sz] w (Ys .u64 w d (mR (s.uv size):Nat) (s.left size)):=by
 subst O;have J:=s.Ny size;have I:=s.uw size
 go_enter Tryz.func155,Tryz.ntmps155
 go_wp2_with fail;refine(Ji d size size s _ rfl h).mono ?_;rintro e w1⟨⟨A,m,c,rfl,hm,a2,hA,a5⟩,hT⟩;obtain⟨l,el⟩:=Zn (s.uv size);rw[<-el] at hm hA J I⊢;subst hm;have ax:=ao el;clear el h;go_wp2_with fail
 go_loop [5,6,7,12] (fun v _ _ i=> ∃k:Nat,k<=l.length/\i= Iz k/\v= .int .u64 (mR (l.take k):Nat)) (fun _ _ _ i=>l.length - (intOf i).toNat)
 case atStart=>exact⟨0,aB _,rfl,rfl⟩
 case round=>
  obtain⟨k,hk,rfl,rfl⟩:=hrel
  by_cases ay:k<l.length
  ·obtain⟨b,o,x,rfl,hb,hc,hx⟩:=hA.Nk ay
   have i1:(k:Int)<l.length:=ae;have HS:=Cf hx.h;have D:=xO (l.take k);rw[bJ,rP hk] at D;have a0:=Ul _ k x ae D;rw[<-HS] at a0;clear hA HS D;go_wp2_with fail
   go_round
   case rel=>exact⟨k+1,ae,by go_num,rfl⟩
   case measure=>simp[intOf];omega
  ·obtain rfl:k=l.length:=ae
   rw[dE];go_wp2_with fail;go_ret;exact⟨by rw[<-ax.h];rfl,hT⟩
def Rd.byteOf (s:Rd):Nat:=mR (s.uv 1)
theorem Rd.pB (s:Rd):s.byteOf<256:=s.Ny 1
def Rd.ix (s:Rd):Int:=wrap64 (mR (s.uv 8):Nat)
def Rd.nO (s:Rd):List UInt8:=(s.left 1).uv s.byteOf
def Rd.pO (s:Rd):Rd:=(s.left 1).left s.byteOf
def Rd.vV (s:Rd):Int:=if s.bad=true then 10 else if s.l=[] then 0 else 15
theorem Fb (d:Nat) (s:Rd) (w:World) (h:cr w d s):
  Wz 121 #[Pz d] w (Ys .i64 w d (s.byteOf:Nat) (s.left 1)):=by
 have D:=s.pB
 go_enter Tryz.func121,Tryz.ntmps121
 go_wp2_with fail;refine(Gp d 1 1 s _ rfl ae h).mono ?_
 change ∀e w',Ys .u64 w d (s.byteOf:Nat) (s.left 1) e w'->_
 rintro e O⟨rfl,I⟩;obtain⟨m,em⟩:=Zn s.byteOf;rw[<-em] at D⊢;have J:=ao em;clear em;go_wp2_with fail;go_ret;exact⟨by rw[<-J.h];rfl,I⟩
theorem O6 (d:Nat) (s:Rd) (w:World) (h:cr w d s):
  Wz 122 #[Pz d] w (Ys .i64 w d s.ix (s.left 8)):=by
 go_enter Tryz.func122,Tryz.ntmps122
 go_wp2_with fail;refine(Gp d 8 8 s _ rfl ae h).mono ?_;rintro e J⟨rfl,D⟩;obtain⟨m,em⟩:=Zn (mR (s.uv 8));rw[<-em];have I:=ao em;clear em;go_wp2_with fail;go_ret;exact⟨by unfold Rd.ix;rw[<-I.h];rfl,D⟩
def Um (w:World) (d:Nat) (s:Rd) (e:Ending) (w':World):Prop:=e= .returned (.string (str s.nO))∧K9 w d s.pO w'
theorem O8 (d:Nat) (s:Rd) (w:World) (h:cr w d s):
  Wz 123 #[Pz d] w (Um w d s):=by
 go_enter Tryz.func123,Tryz.ntmps123
 go_wp2_with fail;refine(Fb d s _ h).mono ?_;rintro e w1⟨rfl,J⟩;go_wp2_with fail;refine(Ji d s.byteOf _ (s.left 1) _ rfl J.at_).mono ?_;rintro e w2⟨⟨A,m,c,rfl,hm,D,hA,O⟩,I⟩;have hs:=T7 (P:=Tryz.prog) Tryz.underlying62 Tryz.underlying5 Tryz.underlying9 c hm hA;have HM:=ao hm;clear hm D;go_wp2_with fail;go_ret;exact⟨rfl,J.next I⟩
theorem RP (d:Nat) (s:Rd) (w:World) (h:cr w d s):
  Wz 124 #[Pz d] w fun e w'=>e= .returned (Iz s.vV)/\w=w':=by
 obtain⟨A,c,I,J,c1,f0,f1,hA,O,D,hc⟩:=h.reads;obtain⟨l,bad⟩:=s;simp only at I J c1 hA D
 cases bad
 ·rcases l with _|⟨x,l⟩
  ·go_enter Tryz.func124,Tryz.ntmps124
   go_wp2_with fail;go_ret;exact⟨rfl,rfl⟩
  ·have i1:0<(x::l).length:=bT
   obtain⟨m,em⟩:=Zn ((x::l).length);rw[<-em] at I J D i1;clear em I hA
   go_enter Tryz.func124,Tryz.ntmps124
   go_wp2_with fail;go_ret;exact⟨rfl,rfl⟩
 ·go_enter Tryz.func124,Tryz.ntmps124
  go_wp2_with fail;go_ret;exact⟨rfl,rfl⟩
structure Pf (B:Nat) (w:World) (d:Nat) (l:List UInt8):Prop where
 wr:∃r,gS w d r l
 bd:B≤d
theorem Pf.Cm {B:Nat} {l l':List UInt8} (W:gS w d r l) (hd:B<=d) (h:ry w d r l' w'):Pf B w' d l'/\Below B w w':=by
 obtain⟨⟨r',D,_⟩,I⟩:=h;have J:=W.jC;exact⟨⟨⟨r',D⟩,hd⟩,I.below hd (fun g hg=>cA ((J.2 g hg).1)) ae⟩
theorem Us (w:World):Wz 84 #[] w fun e w'=> ∃d,e= .returned (Pz d)/\Pf w.heap.size w' d []/\Bz w w':=
 (vU w).mono fun e w' ⟨d,D,I,J,O⟩=>⟨d,D,⟨⟨none,J⟩,I⟩,O⟩
theorem xU (B d:Nat) (l:List UInt8) (n:Int) (w:World) (h:Pf B w d l) (D:l.length<=1000000000):
  Wz 85 #[Pz d,Iz n] w fun e w'=>e= .returned (.tuple #[])/\Pf B w' d (l++le 1 (gJ n))/\Below B w w':=by
 obtain⟨⟨r,W⟩,hd⟩:=h;exact(uu d r l n w W D).mono fun e w' ⟨I,J⟩=>⟨I,Pf.Cm W hd J⟩
theorem pR (B d:Nat) (l:List UInt8) (n:Int) (w:World) (h:Pf B w d l) (D:l.length<=1000000000):
  Wz 86 #[Pz d,Iz n] w fun e w'=>e= .returned (.tuple #[])/\Pf B w' d (l++le 8 (gJ n))/\Below B w w':=by
 obtain⟨⟨r,W⟩,hd⟩:=h;exact(RM d r l n w W D).mono fun e w' ⟨I,J⟩=>⟨I,Pf.Cm W hd J⟩
theorem RY (B d:Nat) (l s:List UInt8) (w:World) (h:Pf B w d l) (I:l.length<=1000000000) (hs:s.length<=9223372036854775807):
  Wz 87 #[Pz d, .string (str s)] w fun e w'=>e= .returned (.tuple #[])/\Pf B w' d (l++rz s)/\Below B w w':=by
 obtain⟨⟨r,W⟩,hd⟩:=h;refine(RO d r l (str s) w W I (by rw[tM];omega)).mono fun e w' ⟨J,D⟩=>⟨J,?_⟩;rw[show(str s).data.toList=s by simp[str]] at D;exact Pf.Cm W hd D
theorem xV (B d:Nat) (l:List UInt8) (w:World) (h:Pf B w d l) (D:l.length<=1000000000):
  Wz 88 #[Pz d] w (tN w l):=by
 obtain⟨⟨r,W⟩,hd⟩:=h;exact Jg d r l w W D
theorem RZ (H:xf P t e z 1) (D:w.ownsRow base e 1 v n xs) (ty:TypeId) 
  (hm:news.length=m) (hc:Cells w A news) (h1:∀u∈news,u.oneCell'=true) (hn:n+m<=140737488355328) (hb:base<=w.heap.size):
  ∃A' c' w',(Builtin.append_ #[t,t] ty #[v, .slice A m c]).run P w= .ok (.slice A' (n+m) c') w'/\og w base e v (n+m) (xs++news) A' c' w':=by
 obtain⟨i,hi,hz,ax,ay⟩:=H.info
 by_cases J:news=[]
 ·subst J
  obtain rfl:m=0:=by simpa using hm.symm
  obtain⟨A',c',rfl,_⟩:=gD D;refine⟨A',c',w,sU H D _ _ _,?_,tu _ _, .inl rfl,fun _ _ _ h=>h⟩;simpa using D
 ·obtain⟨b,off,rfl,a0,I⟩:=hc J
  obtain⟨v',w',hr,h2,h3,_,h5⟩:=run_append_own_at (P:=P) w base t ty e i z 1 1 H.under hi hz ax ay H.one (by decide) v n xs D ⟨b,off,none⟩ m c news ae
   (fun j u hu=>by rw[Addr.add_lit];exact I j u hu) h1 (by unfold maxLen;omega) ae hb
  obtain⟨A',c',rfl,_⟩:=gD h2;exact⟨A',c',w',hr,h2,h3,h5,fun B W hB O=>O.grown h3 (aF hB hb) fun k hk=>cA ((D.lt k hk).1)⟩
theorem uz (H:xf P t e z 1) {o:Oper} {a:Act} 
  (D:w.ownsRow base e 1 v n xs) 
  (I:o.guard=none) (s x:Operand) (J:o.op= .call {callee:= .builtin .append,args:=#[s,x],argTypes:=#[t,t]})
  (hs:a.eval s=v) (hx:a.eval x= .slice A m c) (hm:news.length=m) (hc:Cells w A news)
  (O:∀u∈news,u.oneCell'=true) (hn:n+m<=140737488355328) (hb:base<=w.heap.size) (N:Nat) (L:List Value) (hN:N=n+m) (hL:L=xs++news)
  (h:∀A' c' w',og w base e v N L A' c' w'->wpList P ops Q rest (a.put o.dst (.slice A' N c')) w'):
  wpList P ops Q (o::rest) a w:=by
 refine wpList_plain I fun K hK=>?_;subst hN;subst hL;obtain⟨A',c',w',hr,hA⟩:=RZ H D o.type (c:=c) hm hc O hn hb;unfold Oper.wp execOp;simp only[J,resolve,invoke,builtin,Sem.run_bind,Sem.run_pure,Result.andThen_ok,qm,aW,iM,hs,hx,hr];exact hK _ _ (h A' c' w' hA)
theorem Pg (A:Option Addr) (n c:Nat) (l:List UInt8) (w:World) (hn:l.length=n) (O:n<=140737488355328) (hA:Cells w A (ij l)):
  Wz 126 #[.slice A n c] w (tN w l):=by
 subst hn;rcases A with _|a
 ·have I:l=[]:=by
   rcases l with _|⟨x,l⟩
   ·rfl
   ·obtain⟨b,o,h,_⟩:=hA (by simp[ij])
    cases h
  subst I;have D:=Lib.run_eql_slice_nil (P:=Tryz.prog) w 62 5 none 0 c 0 0 Tryz.underlying62
  go_enter Tryz.func126,Tryz.ntmps126
  go_wp2;go_ret;exact kR.nil _ _ _
 ·have D:=Lib.run_eql_slice_nil (P:=Tryz.prog) w 62 5 (some a) l.length c 0 0 Tryz.underlying62
  go_enter Tryz.func126,Tryz.ntmps126
  go_wp2_with (at_builtin;refine uz zC (cI (base:=w.heap.size) w #[] 0 (af _) (aB _) rfl) (news:=ij l) rfl _ _ rfl rfl rfl (kW l) (hA.alloc _) (sw l) ae bT l.length (ij l) ae bT ?_;intro A4 c4 w4 J)
  go_ret;exact kR.mk rfl J.own (J.below _ _ (af _) ((aa _ _).alloc (af _) _))
theorem DK (A:Option Addr) (n c:Nat) (l:List UInt8) (w:World) (hn:l.length=n) (O:n<=140737488355328) (hA:Cells w A (ij l)):
  Wz 120 #[.slice A n c] w fun e w'=> ∃d,e= .returned (Pz d)/\w.heap.size<=d/\cr w' d ⟨l,false⟩/\Bz w w':=by
 subst hn
 go_enter Tryz.func120,Tryz.ntmps120
 go_wp2_with fail;refine(Pg A _ c l _ rfl O hA).mono ?_;rintro e w1⟨A1,c1,rfl,own,D,h1,h2,I⟩;go_wp2_with fail;go_ret;refine⟨_,rfl,I.size,⟨⟨A1,c1,heap_alloc_new _ _,D.alloc _,?_,h1,by unfold maxLen at h2;omega⟩⟩,I.alloc I.size _⟩;rintro⟨b,o,sp⟩ J;have h3:=own.lt b (by rw[J];rfl);show b<_;omega
end Go.Proofs.YtbaaheidifacaaaGreat
