import Derived.Test.YtbaaheidifacaaaGreatQElem8
import Derived.Laws.BitsAll
import Derived.Laws.Shifts
import Derived.Laws.ShiftsVar
import Derived.Laws.ShiftsVarLaws
import Derived.Laws.Unary
set_option linter.defProp false
set_option linter.unusedVariables false
set_option linter.unusedSimpArgs false
set_option maxRecDepth 100000
set_option maxHeartbeats 12800000
namespace Go.Proofs.YtbaaheidifacaaaGreat
open Go.RowKit
theorem Je (c:BitVec 32):BitVec.ofInt 32 ((c.toNat:Nat):Int)=c:=by
 rw[BitVec.ofInt_natCast,BitVec.ofNat_toNat,BitVec.setWidth_eq]
theorem Uj (c:BitVec 32):IntKind.u32.wrap ((c.toNat:Nat):Int)=((c.toNat:Nat):Int):=by
 rw[IntKind.wrap_u32'];have:=c.isLt;omega
theorem ur (a b:BitVec 32):bits .xor .u32 ((a.toNat:Nat):Int) ((b.toNat:Nat):Int)=(((a ^^^ b).toNat:Nat):Int):=by
 show IntKind.u32.wrap ((BitVec.ofInt 32 ((a.toNat:Nat):Int) ^^^ BitVec.ofInt 32 ((b.toNat:Nat):Int)).toNat:Int)=_;rw[Je,Je,Uj]
theorem Jf (x:UInt8):(uo x).toNat=x.toNat:=by
 have:=x.toNat_lt;simp only[uo,BitVec.toNat_ofNat];omega
theorem O3 (c:BitVec 32) (x:UInt8):bits .xor .u32 ((c.toNat:Nat):Int) ((x.toNat:Int) % 4294967296)=(((c ^^^ uo x).toNat:Nat):Int):=by
 have e:(x.toNat:Int) % 4294967296=(((uo x).toNat:Nat):Int):=by
  have:=x.toNat_lt;rw[Jf];omega
 rw[e,ur]
theorem Wu (c:BitVec 32):((c.toNat:Nat):Int) / (2:Int)=(((c>>>1).toNat:Nat):Int):=by
 rw[BitVec.toNat_ushiftRight,Nat.shiftRight_eq_div_pow];omega
theorem Uk (c:BitVec 32):bits .and .u32 ((c.toNat:Nat):Int) 1=if c.getLsbD 0=true then 1 else 0:=by
 have:=c.isLt;rw[u32_and _ _ ae ae ae ae];have e:(c.toNat:Int).toNat &&& (1:Int).toNat=c.toNat % 2:=nat_mask1 c.toNat;rw[e];have D:c.getLsbD 0=decide (c.toNat % 2=1):=by
  rw[BitVec.getLsbD,Nat.testBit_zero]
 rw[D]
 by_cases h:c.toNat % 2=1
 ·simp[h]
 ·have:c.toNat % 2=0:=ae
  simp[this]
theorem O4 (c:BitVec 32):bits .xor .u32 (((c>>>1).toNat:Nat):Int) 3988292384=(((c>>>1 ^^^ 0xedb88320#32).toNat:Nat):Int):=
 ur _ 0xedb88320#32
theorem Nu (A:Option Addr) (n c:Nat) (l:List UInt8) (w:World) (hn:l.length=n) (hl:n<=9223372036854775807) (hA:Cells w A (ij l)):
  Wz 154 #[.slice A n c] w fun e w'=>e= .returned (.int .u32 (zD l:Nat))/\w=w':=by
 subst hn
 go_enter Tryz.func154,Tryz.ntmps154
 go_wp2
 go_loop [3,9] (fun c i=> ∃k:Nat,k<=l.length/\i= Iz k/\c= .int .u32 ((Cg (BitVec.allOnes 32) (l.take k)).toNat:Nat)) (fun _ i=>l.length - (intOf i).toNat)
 case atStart=>exact⟨0,aB _,rfl,by simp[Cg]⟩
 case round=>
  obtain⟨k,hk,rfl,rfl⟩:=hrel
  by_cases ax:k<l.length
  ·obtain⟨b,o,x,rfl,hb,hc,hx⟩:=hA.Nk ax
   have i1:(k:Int)<l.length:=ae;obtain⟨d,ed⟩:=Zn (Cg (BitVec.allOnes 32) (l.take k));rw[<-ed];have I:Cg (BitVec.allOnes 32) (l.take (k+1))=Jc d x:=by rw[dN hx.h,Jd,ed];rfl
   have O:=ao I;clear I ed hA;have ay:=O3 d x;go_wp2;clear ay
   go_loop [3,6,17] (fun c _ j=> ∃i:Nat,i<=8/\j= Iz i/\c= .int .u32 ((oB i (d ^^^ uo x)).toNat:Nat)) (fun _ _ j=>8 - (intOf j).toNat)
   case atStart=>exact⟨0,aB _,rfl,rfl⟩
   case round=>
    obtain⟨i,hi,rfl,rfl⟩:=hrel
    by_cases a0:i<8
    ·have hs:oB (i+1) (d ^^^ uo x)=vo (oB i (d ^^^ uo x)):=rfl
     obtain⟨s,es⟩:=Zn (oB i (d ^^^ uo x));rw[<-es] at hs⊢;clear es;have h1:=Uk s;have h2:=Wu s;have h3:=O4 s
     by_cases D:s.getLsbD 0=true
     ·rw[if_pos D] at h1
      rw[show vo s=s>>>1 ^^^ 0xedb88320#32 by unfold vo;rw[if_pos D]] at hs;rw[<-hs] at h3;have hd:=s.isLt;obtain⟨n1,e1⟩:=Zn (s.toNat:Nat);obtain⟨n2,e2⟩:=Zn ((s>>>1).toNat:Nat);obtain⟨n3,e3⟩:=Zn ((oB (i+1) (d ^^^ uo x)).toNat:Nat);rw[<-e1] at h1 h2 hd;rw[<-e2] at h2 h3;rw[<-e3] at h3;rw[<-e1];have E3:=ao e3;clear hs D e1 e2 e3;go_wp2
      go_round
      case rel=>exact⟨i+1,ae,by go_num,by rw[<-E3.h]⟩
      case measure=>simp[intOf];omega
     ·rw[if_neg D] at h1
      rw[show vo s=s>>>1 by unfold vo;rw[if_neg D]] at hs;rw[<-hs] at h2;have hd:=s.isLt;obtain⟨n1,e1⟩:=Zn (s.toNat:Nat);obtain⟨n3,e3⟩:=Zn ((oB (i+1) (d ^^^ uo x)).toNat:Nat);rw[<-e1] at h1 h2 hd;rw[<-e3] at h2;rw[<-e1];have E3:=ao e3;clear hs D h3 e1 e3;go_wp2
      go_round
      case rel=>exact⟨i+1,ae,by go_num,by rw[<-E3.h]⟩
      case measure=>simp[intOf];omega
    ·obtain rfl:i=8:=ae
     go_wp2
     go_round
     case rel=>exact⟨k+1,ae,by go_num,by rw[O.h];rfl⟩
     case measure=>simp[intOf];omega
  ·obtain rfl:k=l.length:=ae
   have J:bits .xor .u32 IntKind.u32.max (((Cg (BitVec.allOnes 32) l).toNat:Nat):Int)=((zD l:Nat):Int):=by
    have:=ur (BitVec.allOnes 32) (Cg (BitVec.allOnes 32) l);rw[BitVec.allOnes_xor] at this;exact this
   rw[dE];obtain⟨m,em⟩:=Zn ((Cg (BitVec.allOnes 32) l).toNat);rw[<-em] at J⊢;clear em;have HF:=ao J;clear J;go_wp2;go_ret;exact⟨jJ HF,rfl⟩
end Go.Proofs.YtbaaheidifacaaaGreat
