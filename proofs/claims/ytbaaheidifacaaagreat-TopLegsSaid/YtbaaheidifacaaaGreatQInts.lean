import Derived.Test.YtbaaheidifacaaaGreatQBase
import Derived.Test.YtbaaheidifacaaaGreatRows
import Derived.Lib.Mul64
import Derived.Laws.Bits64b
import Derived.Laws.Externs
import Derived.IntWalk
set_option linter.defProp false
set_option linter.unusedVariables false
set_option linter.unusedSimpArgs false
set_option maxRecDepth 100000
set_option maxHeartbeats 12800000
namespace Go.Proofs.YtbaaheidifacaaaGreat
open Go.RowKit
theorem Nc (a b:Int) (w:World) (ha: -9223372036854775808<=a/\a<=9223372036854775807) (I: -9223372036854775808<=b/\b<=9223372036854775807):
  Wz 162 #[Iz a,Iz b] w fun e w'=>e=told (a+b)/\w=w':=by
 by_cases J:a<0<;>by_cases O:b<0<;>by_cases D:wrap64 (a+b)<0
 all_goals
  go_enter Tryz.func162,Tryz.ntmps162
  go_wp2
  go_ret2
  unfold wrap64 at D;refine⟨?_,rfl⟩
  first
   |exact pG (by first|rfl|(unfold wrap64;omega)) ae
   |exact xl ae
theorem TU (a b:Int) (w:World) (ha: -9223372036854775808<=a/\a<=9223372036854775807) (I: -9223372036854775808<=b/\b<=9223372036854775807):
  Wz 163 #[Iz a,Iz b] w fun e w'=>e=told (a - b)/\w=w':=by
 by_cases J:a<0<;>by_cases O:b<0<;>by_cases D:wrap64 (a - b)<0
 all_goals
  go_enter Tryz.func163,Tryz.ntmps163
  go_wp2
  go_ret2
  unfold wrap64 at D;refine⟨?_,rfl⟩
  first
   |exact pG (by first|rfl|(unfold wrap64;omega)) ae
   |exact xl ae
namespace nC
theorem Hq (a:Nat) (ha:a<18446744073709551616):bits .and .u64 (a:Int) 4294967295=((a % 4294967296:Nat):Int):=by
 have h:=bits_and_u64_nat a 4294967295 ha ae;have e:a &&& 4294967295=a % 4294967296:=Nat.and_two_pow_sub_one_eq_mod a 32;rw[e] at h;exact h
theorem YD (a:Nat):(a:Int) / 4294967296=((a / 4294967296:Nat):Int):=ae
theorem YE (a b:Nat):(a:Int)*(b:Int)=((a*b:Nat):Int):=(lY a b).symm
theorem YF (a b:Nat):(a:Int)+(b:Int)=((a+b:Nat):Int):=(MS a b).symm
theorem zc (a:Nat) (ha:a<18446744073709551616):IntKind.u64.wrap (a:Int)=(a:Int):=by rw[gL];omega
theorem Xi (a:Nat):IntKind.u64.wrap (a:Int)=((a % 18446744073709551616:Nat):Int):=by rw[gL];omega
end nC
theorem N9 (x y:Nat) (hx:x<18446744073709551616) (hy:y<18446744073709551616) (w:World):
  Wz 190 #[.int .u64 x, .int .u64 y] w fun e w'=>e= .returned (.tuple #[.int .u64 ((x*y / 18446744073709551616:Nat):Int), .int .u64 ((x*y % 18446744073709551616:Nat):Int)])/\w=w':=by
 obtain⟨bd,bt,bw,D⟩:=Lib.mul64_hi x y hx hy;have ba:=Lib.half_mul_le (a:=x / 4294967296) (b:=y / 4294967296) ae ae;have bb:=Lib.half_mul_le (a:=x / 4294967296) (b:=y % 4294967296) ae ae;have bc:=Lib.half_mul_le (a:=x % 4294967296) (b:=y / 4294967296) ae ae;have I:x / 4294967296*(y / 4294967296)<18446744073709551616:=ae;have J:x / 4294967296*(y % 4294967296)<18446744073709551616:=ae;have O:x % 4294967296*(y / 4294967296)<18446744073709551616:=ae;have ax:x / 4294967296*(y / 4294967296)+(x / 4294967296*(y % 4294967296)+x % 4294967296*(y % 4294967296) / 4294967296) / 4294967296<18446744073709551616:=ae;have bh:x / 4294967296*(y / 4294967296)+(x / 4294967296*(y % 4294967296)+x % 4294967296*(y % 4294967296) / 4294967296) / 4294967296+((x / 4294967296*(y % 4294967296)+x % 4294967296*(y % 4294967296) / 4294967296) % 4294967296+x % 4294967296*(y / 4294967296)) / 4294967296<18446744073709551616:=ae
 go_enter Tryz.func190,Tryz.ntmps190
 go_wp2;simp only[nC.Hq x hx,nC.Hq y hy,nC.YD,nC.YE,nC.YF,nC.zc _ bd,nC.zc _ J,nC.zc _ bt,nC.Hq _ bt,nC.zc _ O,nC.zc _ bw,nC.zc _ I,nC.zc _ ax,nC.zc _ bh,nC.Xi (x*y)];rw[D]
 go_ret2
 exact⟨rfl,rfl⟩
theorem Oa (x y:Int) (hx:0<=x) (D:0<=y) (w:World):(callFunc 197 #[.int .u64 x, .int .u64 y, .int .u64 0]).run Tryz.prog w=
  .ok (.value (.tuple #[.int .u64 ((x+y) % 18446744073709551616), .int .u64 ((x+y) / 18446744073709551616)])) w:=by
 rw[run_callFunc_extern Tryz.func197 (by kernel_rfl) (by kernel_rfl) (by kernel_rfl) (e:=add64Entry) (by kernel_rfl),run_add64 x y 0 hx D ae ae];simp only[Result.andThen,Hf]
theorem We (S x:Int) (hx: -9223372036854775808<=x/\x<=9223372036854775807):(S+x) / 18446744073709551616=S / 18446744073709551616+((if x<0 then -1 else 0)+(S % 18446744073709551616+x % 18446744073709551616) / 18446744073709551616):=by
 split<;>omega
theorem TV (l:List Int) (h:∀n∈l, -9223372036854775808<=n/\n<=9223372036854775807): -(9223372036854775808*(l.length:Int))<=l.sum/\l.sum<=9223372036854775807*(l.length:Int):=by
 induction l with
 |nil=>simp
 |cons a l D=>
  have I:=D (fun n hn=>h n (bB _ hn));have J:=h a cg;simp only[cN,bI,MS,Int.natCast_one];omega
theorem Xj (x:Int) (hx: -9223372036854775808<=x/\x<=9223372036854775807):x / 9223372036854775808=if x<0 then -1 else 0:=by
 split<;>omega
theorem TW (A:Option Addr) (n c:Nat) (l:List Int) (w:World) (hn:l.length=n) (hl:l.length<=1099511627776) (hw:∀n∈l, -9223372036854775808<=n/\n<=9223372036854775807) (hA:Cells w A (bZ l)):
  Wz 194 #[.slice A n c] w fun e w'=>e=told l.sum/\w=w':=by
 subst hn
 go_enter Tryz.func194,Tryz.ntmps194
 go_wp2
 go_loop [4,5,11] (fun lo hi i=> ∃(k:Nat) (S:Int),k<=l.length/\i= Iz k/\lo= .int .u64 (S % 18446744073709551616)/\hi= Iz (S / 18446744073709551616)/\Hid ((l.take k).sum=S)) (fun _ _ i=>l.length - (intOf i).toNat)
 case atStart=>exact⟨0,0,aB _,rfl,rfl,rfl,rfl⟩
 case round=>
  obtain⟨k,S,hk,rfl,rfl,rfl,J⟩:=hrel;have sb:=TV (l.take k) (fun n hn=>hw n (mT hn));have ay:(l.take k).length<=k:=nA _ _;rw[J.h] at sb;have SB: -9223372036854775808*(k:Int)<=S/\S<=9223372036854775807*(k:Int):=ae;clear sb
  by_cases O:k<l.length
  ·obtain⟨b,o,x,rfl,hb,hc,hx⟩:=hA.jK O
   have D:=hw x (bF hx.h);have i1:(k:Int)<l.length:=ae;have ax:0<=S % 18446744073709551616:=ae;have hu:IntKind.u64.wrap x=x % 18446744073709551616:=gL x;have hr:=Oa (S % 18446744073709551616) (IntKind.u64.wrap x) ax (by rw[hu];omega);have a0:0<=(S % 18446744073709551616+IntKind.u64.wrap x) / 18446744073709551616:=by rw[hu];omega
   have a2:(S % 18446744073709551616+IntKind.u64.wrap x) / 18446744073709551616<=1:=by rw[hu];omega
   have hv:IntKind.i64.wrap ((S % 18446744073709551616+IntKind.u64.wrap x) / 18446744073709551616)=(S % 18446744073709551616+IntKind.u64.wrap x) / 18446744073709551616:=aN _ ae;have s1:IntKind.i64.wrap (x / 9223372036854775808+(S % 18446744073709551616+IntKind.u64.wrap x) / 18446744073709551616)=x / 9223372036854775808+(S % 18446744073709551616+IntKind.u64.wrap x) / 18446744073709551616:=aN _ ae;have s2:IntKind.i64.wrap (S / 18446744073709551616+(x / 9223372036854775808+(S % 18446744073709551616+IntKind.u64.wrap x) / 18446744073709551616))=(S+x) / 18446744073709551616:=by
    rw[aN _ ae,We S x D,Xj x D,hu]
   have s3:(S % 18446744073709551616+IntKind.u64.wrap x) % 18446744073709551616=(S+x) % 18446744073709551616:=by rw[hu];omega
   have I:(l.take (k+1)).sum=S+x:=by rw[tE hx.h,J.h]
   obtain⟨HT,HU⟩:=dF I hu;clear I J hu SB D;go_wp2
   go_round
   case rel=>exact⟨k+1,S+x,ae,by go_num,rfl,rfl,HT⟩
   case measure=>simp[intOf];omega
  ·have e:(S / 18446744073709551616 !=wrap64 (S % 18446744073709551616) / 9223372036854775808)= !M8 S:=by
    rw[Bool.eq_iff_iff];simp only[bne_iff_ne,vC,Nb];unfold wrap64;omega
   have el:(l.take k).sum=l.sum:=by rw[aL ae]
   rw[J.h] at el;have EL:=ao el
   cases hi:M8 S
   all_goals
    rw[hi] at e;have HI:=ao hi;clear hi el;simp only[TE,Bool.not_false] at e;go_wp2
    go_ret2
    rw[<-EL.h]
    first
     |exact⟨xl (Nb.1 HI),rfl⟩
     |exact⟨pG (by have:=M9.1 HI;unfold wrap64;omega) (M9.1 HI),rfl⟩
end Go.Proofs.YtbaaheidifacaaaGreat
