import Derived.Test.YtbaaheidifacaaaGreatQBase
import Derived.Lib.BitFns
import Derived.Laws.Bits64b
import Derived.IntWalk
set_option linter.defProp false
set_option linter.unusedVariables false
set_option linter.unusedSimpArgs false
set_option maxRecDepth 100000
set_option maxHeartbeats 12800000
namespace Go.Proofs.YtbaaheidifacaaaGreat
section
variable {u d v y1 y0 q r:Nat}
def sV (u d v y1 q r:Nat):Prop:=q*y1+r=u∧u*4294967296+d<(q+1)*v
theorem zf (J:0<y1) (hv:v=y1*4294967296+y0) (hd:d<4294967296):sV u d v y1 (u / y1) (u % y1):=by
 have D:=yi u y1;have O:=oF u J;refine⟨by rw[ko];exact D,?_⟩;have h3:u+1<=(u / y1+1)*y1:=by rw[lH,Kh,ko];omega
 have I:(u / y1+1)*v=(u / y1+1)*y1*4294967296+(u / y1+1)*y0:=by rw[hv,Ki,qM]
 rw[I];clear I hv D
 generalize(u / y1+1)*y1=z at*
 generalize(u / y1+1)*y0=z' at*
 omega
theorem Ei (h:sV u d v y1 q r) (hu:u<v) (hd:d<4294967296) (hq:4294967296<=q):sV u d v y1 (q - 1) (r+y1):=by
 obtain⟨k,rfl⟩:∃k,q=k+1:=⟨q - 1,ae⟩;refine⟨by have:=h.1;rw[lH,Kh] at this;simp only[tv];omega,?_⟩;simp only[tv];have D:4294967296*v<=(k+1)*v:=iR _ hq;omega
theorem AD (h:sV u d v y1 q r) (hv:v=y1*4294967296+y0) (hq:4294967296*r+d<q*y0):sV u d v y1 (q - 1) (r+y1):=by
 have D:q≠0:=by rintro rfl;simp at hq
 obtain⟨k,rfl⟩:∃k,q=k+1:=⟨q - 1,ae⟩;have I:=h.1;refine⟨by rw[lH,Kh] at I;simp only[tv];omega,?_⟩;simp only[tv];have J:(k+1)*v=(k+1)*y1*4294967296+(k+1)*y0:=by rw[hv,Ki,qM]
 rw[J]
 generalize(k+1)*y1=z at*
 omega
theorem yq (h:sV u d v y1 q r) (hv:v=y1*4294967296+y0) (hq:q*y0<=4294967296*r+d):(u*4294967296+d) / v=q:=by
 have hle:q*v<=u*4294967296+d:=by
  have h1:=h.1;have J:q*v=q*y1*4294967296+q*y0:=by rw[hv,Ki,qM]
  rw[J]
  generalize q*y1=z at*
  omega
 have D:=h.2;have O:0<v:=by
  rcases jF v with I|I
  ·rw[I] at D;simp at D
  ·exact I
 have:=Nat.div_eq_of_lt_le (m:=u*4294967296+d) (n:=v) (k:=q) hle D;exact this
theorem sr (h:sV u d v y1 q r) (hu:u<v) (hv:v=y1*4294967296+y0) (I:y0<4294967296) (hr:4294967296<=r):(u*4294967296+d) / v=q:=by
 refine yq h hv ?_;have J:=h.1;have hq:q<4294967296:=by
  rcases pq q 4294967296 with D|D
  ·exact D
  ·exfalso
   have:4294967296*y1<=q*y1:=iR _ D;omega
 have D:q*y0<=4294967295*4294967295:=Nat.mul_le_mul ae ae;omega
theorem Hu (h:sV u d v y1 q r) (hq:q<4294967296) (D:y0<4294967296):q*y0<18446744073709551616:=by
 have I:q*y0<=4294967295*4294967295:=Nat.mul_le_mul ae ae;omega
end
theorem Ku (u d1 d0 v:Nat) (hv:0<v) (D:d0<4294967296):
  (u*18446744073709551616+(d1*4294967296+d0)) / v=(u*4294967296+d1) / v*4294967296+((u*4294967296+d1) % v*4294967296+d0) / v/\
  (u*18446744073709551616+(d1*4294967296+d0)) % v=((u*4294967296+d1) % v*4294967296+d0) % v:=by
 have I:=yi (u*4294967296+d1) v;have e:u*18446744073709551616+(d1*4294967296+d0)=v*((u*4294967296+d1) / v*4294967296)+((u*4294967296+d1) % v*4294967296+d0):=by
  rw[<-qM]
  generalize v*((u*4294967296+d1) / v)=z at*
  omega
 rw[e,Nat.mul_add_div hv,Nat.mul_add_mod];exact⟨rfl,rfl⟩
theorem AE:∀(k x:Nat),x≠0->x<2 ^ k->k<=64->2 ^ (Lib.bitLen x - 1)<=x/\x<2 ^ Lib.bitLen x/\1<=Lib.bitLen x
 |0,x,D,h,_=>by simp at h;omega
 |k+1,x,D,h,I=>by
  have hx:x<2 ^ 64:=aA h (zO (by decide) I);have e:=Lib.bitLen_half x D hx
  by_cases J:x / 2=0
  ·have:x=1:=ae
   subst this
   decide+kernel
  ·have O:=AE k (x / 2) J (by rw[pw] at h;omega) ae
   rw[e];obtain⟨i1,i2,i3⟩:=O;refine⟨?_,?_,ae⟩
   ·rw[(ae:1+Lib.bitLen (x / 2) - 1=(Lib.bitLen (x / 2) - 1)+1),pw];omega
   ·rw[Vi,pw];omega
theorem Wf (a b s:Nat) (I:b<2 ^ s) (ha:a*2 ^ s<18446744073709551616) (D:b<18446744073709551616):bits .or .u64 ((a*2 ^ s:Nat):Int) (b:Int)=((a*2 ^ s+b:Nat):Int):=by
 have h:=bits_or_u64_nat (a*2 ^ s) b ha D;rw[h];have:=Nat.two_pow_add_eq_or_of_lt (i:=s) I a;rw[ko a] at*;rw[this]
theorem Kv (hi lo y:Nat) (J:hi<y) (h2:lo<18446744073709551616) (h3:y<18446744073709551616):∃s Y U D:Nat,(64:Int) - (Lib.bitLen y:Int)=(s:Int)/\s<=63/\Y=y*2 ^ s/\9223372036854775808<=Y/\Y<18446744073709551616/\
  IntKind.u64.wrap ((y:Int)*2 ^ min (IntKind.u64.wrap (s:Int)).toNat 64)=(Y:Int)/\
  bits .or .u64 (IntKind.u64.wrap ((hi:Int)*2 ^ min (IntKind.u64.wrap (s:Int)).toNat 64)) ((lo:Int) / 2 ^ min (IntKind.u64.wrap (64 - IntKind.u64.wrap (s:Int))).toNat 64)=(U:Int)/\
  IntKind.u64.wrap ((lo:Int)*2 ^ min (IntKind.u64.wrap (s:Int)).toNat 64)=(D:Int)/\D<18446744073709551616/\U<Y/\U*18446744073709551616+D=(hi*18446744073709551616+lo)*2 ^ s:=by
 obtain⟨b1,b2,b3⟩:=AE 64 y ae ae ae;have b4:Lib.bitLen y<=64:=Lib.bitLen_le y 64 ae ae;obtain⟨s,hs⟩:=Zn (64 - Lib.bitLen y);have p1:2 ^ (Lib.bitLen y)*2 ^ s=18446744073709551616:=by rw[<-Xd,(ae:Lib.bitLen y+s=64)]
 have p2:2 ^ (Lib.bitLen y - 1)*2 ^ s=9223372036854775808:=by rw[<-Xd,(ae:Lib.bitLen y - 1+s=63)]
 have O:2 ^ (64 - s)*2 ^ s=18446744073709551616:=by rw[<-Xd,(ae:64 - s+s=64)]
 have ps:0<2 ^ s:=Kj (by decide);have y1:9223372036854775808<=y*2 ^ s:=p2▸iR _ b1;have y2:y*2 ^ s<18446744073709551616:=p1▸N4 b2 ps;have y3:hi*2 ^ s<y*2 ^ s:=N4 J ps;have ws:IntKind.u64.wrap (s:Int)=s:=gC _ ae;have I:IntKind.u64.wrap (64 - (s:Int))=((64 - s:Nat):Int):=by rw[gC _ ae];omega
 have m1:min (IntKind.u64.wrap (s:Int)).toNat 64=s:=by rw[ws];omega
 have m2:min (IntKind.u64.wrap (64 - IntKind.u64.wrap (s:Int))).toNat 64=64 - s:=by rw[ws,I];omega
 have c1:(y:Int)*2 ^ s=((y*2 ^ s:Nat):Int):=bT;have c2:(hi:Int)*2 ^ s=((hi*2 ^ s:Nat):Int):=bT;have c3:(lo:Int)*2 ^ s=((lo*2 ^ s:Nat):Int):=bT;have c4:(lo:Int) / 2 ^ (64 - s)=((lo / 2 ^ (64 - s):Nat):Int):=bT;have l1:lo / 2 ^ (64 - s)<2 ^ s:=by
  rw[V5 (Kj (by decide)),ko,O];exact h2
 have l2:lo / 2 ^ (64 - s)<=lo:=yj _ _;refine⟨s,y*2 ^ s,hi*2 ^ s+lo / 2 ^ (64 - s),lo*2 ^ s % 18446744073709551616,ae,ae,rfl,y1,y2,?_,?_,?_,ae,?_,?_⟩
 ·rw[m1,c1,gC _ ae]
 ·rw[m1,m2,c2,c4,gC _ ae,Wf _ _ _ l1 ae ae]
 ·rw[m1,c3,gL];omega
 ·have:(hi+1)*2 ^ s<=y*2 ^ s:=iR _ J
  rw[lH,Kh] at this;omega
 ·have e:lo*2 ^ s / 18446744073709551616=lo / 2 ^ (64 - s):=by rw[<-O,V6 _ _ ps]
  have e2:(hi*18446744073709551616+lo)*2 ^ s=hi*2 ^ s*18446744073709551616+lo*2 ^ s:=by rw[lH,Nat.mul_right_comm]
  rw[<-e,e2];omega
end Go.Proofs.YtbaaheidifacaaaGreat
