import Derived.Test.YtbaaheidifacaaaGreatQInts
import Derived.Test.YtbaaheidifacaaaGreatQDivP
import Derived.Deep.CutBlock
import Derived.Deep.DeepCutAuto
import Derived.Lib.Strings
import Derived.Lib.Slices
import Derived.Lib.Small
import Derived.Lib.Walk
set_option linter.defProp false
set_option linter.unusedVariables false
set_option linter.unusedSimpArgs false
set_option maxRecDepth 100000
set_option maxHeartbeats 12800000
namespace Go.Proofs.YtbaaheidifacaaaGreat
open Go.RowKit
theorem qx (v:Int) (n x:Nat) (D:0<=v) (I:v<=255) (h:Lib.bitLen x=n+Lib.bitLen v.toNat):(n:Int)+Lib.len8 v=Lib.bitLen x:=by
 rw[Lib.len8_of v D I];omega
theorem qz (v:Int) (D:0<=v) (I:v<=255):0<=Lib.len8 v/\Lib.len8 v<=8:=by
 rw[Lib.len8_of v D I];have:=Lib.bitLen_le8' v D I;omega
theorem Oh (x:Int) (w:World) (J:0<=x) (O:x<=18446744073709551615):
  Wz 198 #[.int .u64 x] w fun e w'=>e= .returned (Iz (Lib.bitLen x.toNat))/\w=w':=by
 have hc:x<256\/(256<=x/\x<65536)\/(65536<=x/\x<16777216)\/(16777216<=x/\x<4294967296)\/(4294967296<=x/\x<1099511627776)\/(1099511627776<=x/\x<281474976710656)\/(281474976710656<=x/\x<72057594037927936)\/72057594037927936<=x:=ae;rcases hc with hc|hc|hc|hc|hc|hc|hc|hc
 ·have D:0<=x:=ae
  have b1:x<=255:=ae;obtain⟨I,he⟩:=dF (qz (x) D b1) (qx (x) 0 x.toNat D b1 bT)
  go_enter Tryz.func198,Tryz.ntmps198
  go_wp2;go_ret;have I:=I.h;exact⟨jJ (by have:=he.h;first|omega|(simp only[wrap64];omega)),rfl⟩
 ·have D:0<=x / 256:=ae
  have b1:x / 256<=255:=ae;obtain⟨I,he⟩:=dF (qz (x / 256) D b1) (qx (x / 256) 8 x.toNat D b1 (by rw[Lib.bitLen_shift8 x.toNat ae ae];congr 2;omega))
  go_enter Tryz.func198,Tryz.ntmps198
  go_wp2;go_ret;have I:=I.h;exact⟨jJ (by have:=he.h;first|omega|(simp only[wrap64];omega)),rfl⟩
 ·have D:0<=x / 65536:=ae
  have b1:x / 65536<=255:=ae;obtain⟨I,he⟩:=dF (qz (x / 65536) D b1) (qx (x / 65536) 16 x.toNat D b1 (by rw[Lib.bitLen_shift16 x.toNat ae ae];congr 2;omega))
  go_enter Tryz.func198,Tryz.ntmps198
  go_wp2;go_ret;have I:=I.h;exact⟨jJ (by have:=he.h;first|omega|(simp only[wrap64];omega)),rfl⟩
 ·have D:0<=x / 65536 / 256:=ae
  have b1:x / 65536 / 256<=255:=ae;obtain⟨I,he⟩:=dF (qz (x / 65536 / 256) D b1) (qx (x / 65536 / 256) 24 x.toNat D b1 (by rw[Lib.bitLen_shift24 x.toNat ae ae];congr 2;omega))
  go_enter Tryz.func198,Tryz.ntmps198
  go_wp2;go_ret;have I:=I.h;exact⟨jJ (by have:=he.h;first|omega|(simp only[wrap64];omega)),rfl⟩
 ·have D:0<=x / 4294967296:=ae
  have b1:x / 4294967296<=255:=ae;obtain⟨I,he⟩:=dF (qz (x / 4294967296) D b1) (qx (x / 4294967296) 32 x.toNat D b1 (by rw[Lib.bitLen_shift32 x.toNat ae ae];congr 2;omega))
  go_enter Tryz.func198,Tryz.ntmps198
  go_wp2;go_ret;have I:=I.h;exact⟨jJ (by have:=he.h;first|omega|(simp only[wrap64];omega)),rfl⟩
 ·have D:0<=x / 4294967296 / 256:=ae
  have b1:x / 4294967296 / 256<=255:=ae;obtain⟨I,he⟩:=dF (qz (x / 4294967296 / 256) D b1) (qx (x / 4294967296 / 256) 40 x.toNat D b1 (by rw[Lib.bitLen_shift40 x.toNat ae ae];congr 2;omega))
  go_enter Tryz.func198,Tryz.ntmps198
  go_wp2;go_ret;have I:=I.h;exact⟨jJ (by have:=he.h;first|omega|(simp only[wrap64];omega)),rfl⟩
 ·have D:0<=x / 4294967296 / 65536:=ae
  have b1:x / 4294967296 / 65536<=255:=ae;obtain⟨I,he⟩:=dF (qz (x / 4294967296 / 65536) D b1) (qx (x / 4294967296 / 65536) 48 x.toNat D b1 (by rw[Lib.bitLen_shift48 x.toNat ae ae];congr 2;omega))
  go_enter Tryz.func198,Tryz.ntmps198
  go_wp2;go_ret;have I:=I.h;exact⟨jJ (by have:=he.h;first|omega|(simp only[wrap64];omega)),rfl⟩
 ·have D:0<=x / 4294967296 / 65536 / 256:=ae
  have b1:x / 4294967296 / 65536 / 256<=255:=ae;obtain⟨I,he⟩:=dF (qz (x / 4294967296 / 65536 / 256) D b1) (qx (x / 4294967296 / 65536 / 256) 56 x.toNat D b1 (by rw[Lib.bitLen_shift56 x.toNat ae ae];congr 2;omega))
  go_enter Tryz.func198,Tryz.ntmps198
  go_wp2;go_ret;have I:=I.h;exact⟨jJ (by have:=he.h;first|omega|(simp only[wrap64];omega)),rfl⟩
theorem QT (x:Int) (w:World) (D:0<=x) (I:x<=18446744073709551615):
  Wz 195 #[.int .u64 x] w fun e w'=>e= .returned (Iz (64 - (Lib.bitLen x.toNat:Int)))/\w=w':=by
 have l:Lib.bitLen x.toNat<=64:=Lib.bitLen_le x.toNat 64 ae ae
 go_enter Tryz.func195,Tryz.ntmps195
 go_wp2_with fail;refine(Oh x _ D I).mono ?_;rintro e w'⟨rfl,rfl⟩;go_wp2;go_ret;exact⟨rfl,rfl⟩
theorem Nd {k k':IntKind} {a b a' D:Int} (h:a=a') (I:b=D):Ending.returned (.tuple #[.int k a, .int k' b])= .returned (.tuple #[.int k a', .int k' D]):=by rw[h,I]
theorem Oi (hi lo y:Nat) (w:World) (h1:hi<y) (h2:lo<18446744073709551616) (h3:y<18446744073709551616):
  Wz 191 #[.int .u64 hi, .int .u64 lo, .int .u64 y] w fun e w'=>e= .returned (.tuple #[.int .u64 (((hi*18446744073709551616+lo) / y:Nat):Int), .int .u64 (((hi*18446744073709551616+lo) % y:Nat):Int)])/\∃n,w'=w.drewN n:=by
 have z1:((y:Int)==0)=false:=iW;have t1:((y:Int)<=hi)=False:=iW;have i1:(1:Int)<=y:=ae
 cases z2:((hi:Int)==0)
 ·obtain⟨s,Y,U,D,bQ,bb,bR,ay,b0,hY,hU,hD,cl,a0,hN⟩:=Kv hi lo y h1 h2 h3
  obtain⟨y1,cm⟩:=Zn (Y / 4294967296);obtain⟨y0,cn⟩:=Zn (Y % 4294967296);obtain⟨d1,ct⟩:=Zn (D / 4294967296);obtain⟨d0,cv⟩:=Zn (D % 4294967296);obtain⟨q0,a2⟩:=Zn (U / y1);obtain⟨r0,bc⟩:=Zn (U % y1);have hv:Y=y1*4294967296+y0:=ae;have cF:2147483648<=y1:=ae;have d5:y1<4294967296:=ae;have J:y0<4294967296:=ae;have b2:d1<4294967296:=ae;have bf:d0<4294967296:=ae;have G0:sV U d1 Y y1 q0 r0:=a2▸bc▸zf ae hv b2;have bh:r0<y1:=bc▸oF _ ae;have e1:(Y:Int) / 4294967296=y1:=ae;have e2:bits .and .u64 (Y:Int) 4294967295=y0:=by rw[nC.Hq Y b0];omega
  have e3:(D:Int) / 4294967296=d1:=ae;have e4:bits .and .u64 (D:Int) 4294967295=d0:=by rw[nC.Hq D cl];omega
  have e5:(U:Int) / (y1:Int)=q0:=by rw[a2];simp
  have e6:IntKind.u64.wrap ((U:Int).tdiv y1)=q0:=by rw[IntWalk.u64_quo _ _ ae];exact e5
  have hm:=G0.1;have bp:q0<=U:=a2▸yj _ _;have e7:IntKind.u64.wrap ((q0:Int)*y1)=((q0*y1:Nat):Int):=by rw[<-lY];exact gC _ ae
  have e8:IntKind.u64.wrap ((U:Int) - ((q0*y1:Nat):Int))=r0:=by rw[gC _ ae];omega
  have e9:IntKind.u64.wrap ((U:Int) - IntKind.u64.wrap ((q0:Int)*y1))=r0:=e7▸e8;have bp:(q0:Int)<=18446744073709551615:=ae;have bh:(r0:Int)<=4294967295:=ae;obtain⟨G,HN,HS,cH,HV,a5,cQ⟩:=yY G0 hN bb bR hv a0 ay;have bU:(U:Int)<=18446744073709551615:=ae;have d6:(d1:Int)<=4294967295:=ae;have d7:(d0:Int)<=4294967295:=ae;have d8:(y0:Int)<=4294967295:=ae;have d9:(y1:Int)<=4294967295:=ae;have ea:(1:Int)<=y1:=ae;have cS:=ao ((ae:D=d1*4294967296+d0));clear hm G0 hN bb bR hv a0 ay cm cn ct cv a2 bc cF b0 e7 e8
  go_enter Tryz.func191,Tryz.ntmps191
  go_wp2_with fail;refine(QT _ _ ae ae).mono ?_;rintro e w'⟨rfl,rfl⟩;rw[mD,bQ];clear bQ
  go_upto_block 0 with(fail)
  obtain⟨Q1,O⟩:=Zn ((U*4294967296+d1) / Y);obtain⟨V,hV⟩:=Zn ((U*4294967296+d1) % Y);obtain⟨a6,cT⟩:=dF O hV;clear O hV
  go_cut [15] (fun q wx=>q= .int .u64 (Q1:Int)/\w=wx)
  case first=>
   go_wp2
   go_loop [15,16] (fun q r=> ∃a b:Nat,q= .int .u64 a/\r= .int .u64 b/\(b:Int)<=4294967295/\(a:Int)<=18446744073709551615/\Hid (sV U d1 Y y1 a b)) (fun q _=>(intOf q).toNat)
   case atStart=>exact⟨q0,r0,rfl,rfl,bh,bp,G⟩
   case round=>
    obtain⟨a,b,rfl,rfl,hb,ha,G'⟩:=hrel;clear G e9 e6 e5;rcases dec ((4294967296:Int)<=a) with⟨t2,d2⟩|⟨t2,d2⟩
    ·have GN:=ao (Ei G' a5 b2 ae)
     rcases dec ((4294967296:Int)<=(b:Int)+y1) with⟨t3,d3⟩|⟨t3,d3⟩
     ·go_wp2
      go_meet;exact⟨fE (by rw[a6.h,sr GN.h a5.h HV.h J ae];omega),rfl⟩
     ·go_wp2
      go_round
      case rel=>exact⟨a - 1,b+y1,fE ae,fE ae,ae,ae,GN⟩
      case measure=>simp[intOf];omega
    ·obtain⟨P,I⟩:=Zn (a*y0)
     have cX:P<18446744073709551616:=I▸Hu G' ae J;have eP:IntKind.u64.wrap ((a:Int)*y0)=(P:Int):=by rw[I,<-lY];exact gC _ (by rw[<-I];omega)
     have HP:=ao I;clear I;rcases dec (4294967296*(b:Int)+d1<P) with⟨t4,d4⟩|⟨t4,d4⟩
     ·have GN:=ao (AD G' HV (by rw[<-HP.h];omega))
      have c0:a≠0:=by have I:=HP.h;rintro rfl;rw[kp] at I;omega
      have dc:(1:Int)<=a:=ae;rcases dec ((4294967296:Int)<=(b:Int)+y1) with⟨t3,d3⟩|⟨t3,d3⟩
      ·go_wp2
       go_meet;exact⟨fE (by rw[a6.h,sr GN.h a5.h HV.h J ae];omega),rfl⟩
      ·go_wp2
       go_round
       case rel=>exact⟨a - 1,b+y1,fE ae,fE ae,ae,ae,GN⟩
       case measure=>simp[intOf];omega
     ·have hq:=ao (yq G' HV (by rw[<-HP.h];omega))
      go_wp2;go_meet;exact⟨fE (by rw[a6.h,hq.h]),rfl⟩
  obtain⟨rfl,rfl⟩:=hcut;clear G e9 e6 e5 bh bp;obtain⟨p0,bt⟩:=Zn (V / y1);obtain⟨s0,b7⟩:=Zn (V % y1);obtain⟨Q2,a7⟩:=Zn ((V*4294967296+d0) / Y);obtain⟨R2,a8⟩:=Zn ((V*4294967296+d0) % Y);have ay:=cQ.h;have a0:=a5.h;have hV:=cT.h;have O:=a6.h;have b8:V<Y:=hV▸oF _ ae;have b9:=yi (U*4294967296+d1) Y;rw[<-O,<-hV,ko] at b9;have ba:=yi (V*4294967296+d0) Y;rw[<-a7,<-a8,ko] at ba;have dp:R2<Y:=a8▸oF _ ae;have dS:Y<18446744073709551616:=cA HV.h;have g1:IntKind.u64.wrap (IntKind.u64.wrap (IntKind.u64.wrap ((U:Int)*4294967296)+d1) - IntKind.u64.wrap ((Q1:Int)*Y))=(V:Int):=by
   rw[<-lY];simp only[gL];omega
  have g2:IntKind.u64.wrap (IntKind.u64.wrap (IntKind.u64.wrap ((V:Int)*4294967296)+d0) - IntKind.u64.wrap ((Q2:Int)*Y))=(R2:Int):=by
   rw[<-lY];simp only[gL];omega
  have G0:sV V d0 Y y1 p0 s0:=bt▸b7▸zf ae HV bf;have cd:(s0:Int)<=4294967295:=cA (oF V ((ae:0<y1)));have cf:(p0:Int)<=18446744073709551615:=cA (yj V y1);have hm:=G0.1;have f5:(V:Int) / (y1:Int)=p0:=by rw[bt];simp
  have f6:IntKind.u64.wrap ((V:Int).tdiv y1)=p0:=by rw[IntWalk.u64_quo _ _ ae];exact f5
  have f7:IntKind.u64.wrap ((p0:Int)*y1)=((p0*y1:Nat):Int):=by rw[<-lY];exact gC _ ae
  have f9:IntKind.u64.wrap ((V:Int) - IntKind.u64.wrap ((p0:Int)*y1))=s0:=by rw[f7,gC _ ae];omega
  have ax:=Ku U d1 d0 Y ae bf;have ck:=cS.h;rw[<-O,<-hV,<-a7,<-a8,<-ck,HN.h,cH.h,V6 _ _ (Kj (by decide)),Nat.mul_mod_mul_right] at ax;obtain⟨G2,bE,bH,HE,dT⟩:=rU G0 a7 b8 ax g2;have bV:(V:Int)<=18446744073709551615:=ae;clear hm G0 bt b7 a7 a8 ay a0 hV O b8 b9 ba dp dS f7 ax ck g2
  go_upto_block 2 with(fail)
  go_cut [18] (fun q wx=>q= .int .u64 (Q2:Int)/\w=wx)
  case first=>
   go_wp2
   go_loop [18,16] (fun q r=> ∃a b:Nat,q= .int .u64 a/\r= .int .u64 b/\(b:Int)<=4294967295/\(a:Int)<=18446744073709551615/\Hid (sV V d0 Y y1 a b)) (fun q _=>(intOf q).toNat)
   case atStart=>exact⟨p0,s0,rfl,rfl,cd,cf,G2⟩
   case round=>
    obtain⟨a,b,rfl,rfl,hb,ha,G'⟩:=hrel;clear G2 f9 f6 f5;rcases dec ((4294967296:Int)<=a) with⟨t2,d2⟩|⟨t2,d2⟩
    ·have GN:=ao (Ei G' bH bf ae)
     rcases dec ((4294967296:Int)<=(b:Int)+y1) with⟨t3,d3⟩|⟨t3,d3⟩
     ·go_wp2
      go_meet;exact⟨fE (by rw[bE.h,sr GN.h bH.h HV.h J ae];omega),rfl⟩
     ·go_wp2
      go_round
      case rel=>exact⟨a - 1,b+y1,fE ae,fE ae,ae,ae,GN⟩
      case measure=>simp[intOf];omega
    ·obtain⟨P,I⟩:=Zn (a*y0)
     have cX:P<18446744073709551616:=I▸Hu G' ae J;have eP:IntKind.u64.wrap ((a:Int)*y0)=(P:Int):=by rw[I,<-lY];exact gC _ (by rw[<-I];omega)
     have HP:=ao I;clear I;rcases dec (4294967296*(b:Int)+d0<P) with⟨t4,d4⟩|⟨t4,d4⟩
     ·have GN:=ao (AD G' HV (by rw[<-HP.h];omega))
      have c0:a≠0:=by have I:=HP.h;rintro rfl;rw[kp] at I;omega
      have dc:(1:Int)<=a:=ae;rcases dec ((4294967296:Int)<=(b:Int)+y1) with⟨t3,d3⟩|⟨t3,d3⟩
      ·go_wp2
       go_meet;exact⟨fE (by rw[bE.h,sr GN.h bH.h HV.h J ae];omega),rfl⟩
      ·go_wp2
       go_round
       case rel=>exact⟨a - 1,b+y1,fE ae,fE ae,ae,ae,GN⟩
       case measure=>simp[intOf];omega
     ·have hq:=ao (yq G' HV (by rw[<-HP.h];omega))
      go_wp2;go_meet;exact⟨fE (by rw[bE.h,hq.h]),rfl⟩
  obtain⟨rfl,rfl⟩:=hcut;have g2:=dT.h;clear G2 f9 f6 f5 cf cd g1;go_wp2
  go_ret2
  have he:=HE.h;have bb:=HS.h;have hN:=Nat.div_lt_of_lt_mul (m:=hi*18446744073709551616+lo) (n:=y) (k:=18446744073709551616) ae;rw[he.1] at hN;refine⟨Nd ?_ ?_,0,rfl⟩
  ·rw[he.1];simp only[gL];omega
  ·have m1:min (IntKind.u64.wrap (s:Int)).toNat 64=s:=by rw[gC _ ae];omega
   rw[m1,<-he.2];have ps:0<2 ^ s:=Kj (by decide);have c1:(((hi*18446744073709551616+lo) % y*2 ^ s:Nat):Int) / 2 ^ s=(((hi*18446744073709551616+lo) % y*2 ^ s / 2 ^ s:Nat):Int):=bT;rw[c1,Nat.mul_div_cancel _ ps]
 ·obtain rfl:hi=0:=by simpa using z2
  go_enter Tryz.func191,Tryz.ntmps191
  go_wp2
  go_quiet (fail)
  go_wp2
  go_ret2
  have h4:=yj lo y;have h5:(lo:Int) / (y:Int)=((lo / y:Nat):Int):=bT;refine⟨Nd ?_ ?_,_,rfl⟩
  ·rw[kp,ec]
   exact(gC _ ⟨yh ae ae,Int.le_trans (Int.ediv_le_self _ ae) ae⟩).trans h5
  ·rw[kp,ec];simp
theorem wI (a b c:Int) (w:World) (ha: -9223372036854775808<=a/\a<=9223372036854775807) (hb: -9223372036854775808<=b/\b<=9223372036854775807) (hc: -9223372036854775808<=c/\c<=9223372036854775807):
  Wz 183 #[Iz a,Iz b,Iz c] w fun e w'=>e=pH a b c/\∃n,w'=w.drewN n:=by
 rcases dec (a<0) with⟨h1,d1⟩|⟨h1,d1⟩
 ·rw[si (.inl h1)]
  go_enter Tryz.func183,Tryz.ntmps183
  go_wp2
  go_ret2
  exact⟨rfl,0,rfl⟩
 rcases dec (b<0) with⟨h2,d2⟩|⟨h2,d2⟩
 ·rw[si (.inr (.inl h2))]
  go_enter Tryz.func183,Tryz.ntmps183
  go_wp2
  go_ret2
  exact⟨rfl,0,rfl⟩
 rcases dec (c<1) with⟨h3,d3⟩|⟨h3,d3⟩
 ·rw[si (.inr (.inr h3))]
  go_enter Tryz.func183,Tryz.ntmps183
  go_wp2
  go_ret2
  exact⟨rfl,0,rfl⟩
 rw[tF ae];obtain⟨x,rfl⟩:=xc ((ae:0<=a));obtain⟨y,rfl⟩:=xc ((ae:0<=b));obtain⟨z,rfl⟩:=xc ((ae:0<=c));have hm:=N9 x y ae ae;obtain⟨N,O⟩:=Zn (x*y);have hT:(x:Int)*y / z=((N / z:Nat):Int):=by rw[O];simp
 obtain⟨H,hH⟩:=Zn (N / 18446744073709551616);obtain⟨L,hL⟩:=Zn (N % 18446744073709551616);have hd:=fun w (h:H<z)=>Oi H L z w h ae ae;have J:H*18446744073709551616+L=N:=ae;rw[J] at hd;rw[<-O,<-hH,<-hL] at hm;obtain⟨HM,HD⟩:=dF hm hd;have ax:H<18446744073709551616:=by
  have:N<18446744073709551616*18446744073709551616:=O▸Nat.mul_lt_mul'' ae ae;omega
 rw[hT];obtain⟨Q,hQ⟩:=Zn (N / z);rw[<-hQ] at hd⊢;have HD:=ao hd;have hz:0<z:=ae;have I:z<=H->18446744073709551616<=Q:=fun h=>by
  rw[hQ,Nat.le_div_iff_mul_le hz]
  calc 18446744073709551616*z<=18446744073709551616*H:=Dv _ h
   _<=N:=ae
 have D:H<z->Q<18446744073709551616:=fun h=>by
  rw[hQ,V5 hz];have:(H+1)*18446744073709551616<=z*18446744073709551616:=iR _ h;rw[ko];omega
 obtain⟨HB,ay⟩:=dF I D;have bH:(H:Int)<=18446744073709551615:=ae;clear hm hd O hT hH hL J ax hQ I D;rcases dec ((z:Int)<=H) with⟨h4,d4⟩|⟨h4,d4⟩
 ·go_enter Tryz.func183,Tryz.ntmps183
  go_wp2_with fail;refine(HM _).mono ?_;rintro e w'⟨rfl,rfl⟩;go_wp2
  go_ret2
  exact⟨xl (cA (HB.h ae)),0,rfl⟩
 ·have bQ:(Q:Int)<=18446744073709551615:=cA (ay.h ae)
  rcases dec ((9223372036854775807:Int)<Q) with⟨h5,d5⟩|⟨h5,d5⟩
  all_goals
   go_enter Tryz.func183,Tryz.ntmps183
   go_wp2_with fail;refine(HM _).mono ?_;rintro e w'⟨rfl,rfl⟩;go_wp2_with fail;refine(HD _ ae).mono ?_;rintro e w'⟨rfl,n,rfl⟩;go_wp2
   go_ret2
   first
    |exact⟨xl ae,n,rfl⟩
    |exact⟨pG (by first|rfl|omega|(unfold wrap64;omega)) ae,n,rfl⟩
end Go.Proofs.YtbaaheidifacaaaGreat
