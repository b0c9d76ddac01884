import Derived.Test.YtbaaheidifacaaaGreatQCmdP
import Derived.Test.YtbaaheidifacaaaGreatQLabR
import Derived.Deep.DeepCutAuto
import Derived.Deep.CutBlock
set_option linter.defProp false
set_option linter.unusedVariables false
set_option linter.unusedSimpArgs false
set_option maxRecDepth 100000
set_option maxHeartbeats 12800000
namespace Go.Proofs.YtbaaheidifacaaaGreat
variable {A:Option Addr} {R:World→Nat→Rd→Prop} {c z:bN} {d g g2 g5:Nat} {l lb:List UInt8} {s:Rd} {w w' w0:World}
open Go.RowKit
def bN.cells (c:bN):Array Value:=#[Iz c.kind,Iz c.id,Iz c.inst,Iz c.side,Iz c.ag,Iz c.aw,Iz c.least,Iz c.time, .string (str c.ky)]
def bN.val (c:bN):Value:= .agg c.cells
def kM (w:World) (g:Nat) (c:bN):Prop:=w.heap[g]?=some (.cells c.cells 35 (0,0))
theorem kM.below (h:kM w g c) (D:Bz w w'):kM w' g c:=
 (D.block g (aU.1 h).1).trans h
theorem kM.lt (h:kM w g c):g<w.heap.size:=(aU.1 h).1
theorem kM.new (w:World) (c:bN):kM (w.alloc (.cells c.cells 35)) w.heap.size c:=heap_alloc_new _ _
theorem kM.cell (h:kM w g c) (i:Nat):w.cell? ⟨g,i,none⟩=c.cells[i]?:=by
 unfold kM at h;simp[World.cell?,h]
theorem kM.reads {k i n s p q l t:Int} (h:kM w g ⟨k,i,n,s,p,q,l,t,lb⟩):
  w.cell? ⟨g,0,none⟩=some (Iz k)/\w.cell? ⟨g,1,none⟩=some (Iz i)/\w.cell? ⟨g,2,none⟩=some (Iz n)/\w.cell? ⟨g,3,none⟩=some (Iz s)/\w.cell? ⟨g,4,none⟩=some (Iz p)/\
  w.cell? ⟨g,5,none⟩=some (Iz q)/\w.cell? ⟨g,6,none⟩=some (Iz l)/\w.cell? ⟨g,7,none⟩=some (Iz t)/\w.cell? ⟨g,8,none⟩=some (.string (str lb)):=
 ⟨h.cell 0,h.cell 1,h.cell 2,h.cell 3,h.cell 4,h.cell 5,h.cell 6,h.cell 7,h.cell 8⟩
theorem xS (n:Int) (w:World):Wz 67 #[Iz n] w fun e w'=>e= .returned (.bool (decide (kL n)))/\w=w':=by
 obtain⟨b,D⟩:=Zn (decide (kL n));rw[<-D]
 by_cases I:1<=n
 ·by_cases J:n<=1000000
  ·have e:b=true:=by rw[D];exact decide_eq_true ⟨I,J⟩
   clear D;subst e
   go_enter Tryz.func67,Tryz.ntmps67
   go_wp2;go_ret;exact⟨rfl,rfl⟩
  ·have e:b=false:=by rw[D];exact decide_eq_false fun h=>J h.2
   clear D;subst e
   go_enter Tryz.func67,Tryz.ntmps67
   go_wp2;go_ret;exact⟨rfl,rfl⟩
 ·have e:b=false:=by rw[D];exact decide_eq_false fun h=>I h.1
  clear D;subst e
  go_enter Tryz.func67,Tryz.ntmps67
  go_wp2;go_ret;exact⟨rfl,rfl⟩
theorem Fc (n:Int) (w:World):Wz 68 #[Iz n] w fun e w'=>e= .returned (.bool (decide (jg n)))/\w=w':=by
 obtain⟨b,D⟩:=Zn (decide (jg n));rw[<-D]
 by_cases I: -2000000<=n
 ·by_cases J:n<=2000000
  ·have e:b=true:=by rw[D];exact decide_eq_true ⟨I,J⟩
   clear D;subst e
   go_enter Tryz.func68,Tryz.ntmps68
   go_wp2;go_ret;exact⟨rfl,rfl⟩
  ·have e:b=false:=by rw[D];exact decide_eq_false fun h=>J h.2
   clear D;subst e
   go_enter Tryz.func68,Tryz.ntmps68
   go_wp2;go_ret;exact⟨rfl,rfl⟩
 ·have e:b=false:=by rw[D];exact decide_eq_false fun h=>I h.1
  clear D;subst e
  go_enter Tryz.func68,Tryz.ntmps68
  go_wp2;go_ret;exact⟨rfl,rfl⟩
theorem Pd (h:lb=[]):(str lb).toList.isEmpty=true:=by subst h;rw[wL];rfl
theorem RX (h:lb≠[]):(str lb).toList.isEmpty=false:=by
 rw[wL];simpa using h
theorem Pe (c:bN) (hl:c.ky.length<=9223372036854775807) (w:World):Wz 66 #[c.val] w fun e w'=>e= .returned (Iz (wN c:Nat))/\Bz w w':=by
 obtain⟨O,eO⟩:=Zn (wN c);rw[<-eO];obtain⟨k,i,n,s,p,q,l,t,lb⟩:=c;unfold wN at eO;simp only at eO hl;obtain⟨w0,ax⟩:=Zn (w.alloc (.cells (bN.cells ⟨k,i,n,s,p,q,l,t,lb⟩) 35));obtain⟨g,eg⟩:=Zn w.heap.size;have hC:kM w0 g ⟨k,i,n,s,p,q,l,t,lb⟩:=ax▸eg▸kM.new _ _;have B0:Bz w w0:=ax▸au (aa _ _) _;have I:=ao eO;clear eO;show Wz 66 #[.agg #[Iz k,Iz i,Iz n,Iz s,Iz p,Iz q,Iz l,Iz t, .string (str lb)]] w _
 change w0=w.alloc (.cells #[Iz k,Iz i,Iz n,Iz s,Iz p,Iz q,Iz l,Iz t, .string (str lb)] 35) at ax
 go_enter Tryz.func66,Tryz.ntmps66
 go_upto_region 1 with(fail)
 rw[<-ax,<-eg];clear ax eg;obtain⟨f0,f1,f2,f3,f4,f5,f6,f7,f8⟩:=hC.reads;have BB:=B0;obtain⟨b,hb⟩:=Zn (decide (s≠1/\s≠2));have D:=ao hb;clear hb
 go_cut [3] (fun v wx=>v= .bool b/\w0=wx)
 case first=>
  clear I;have hw:(s=1)\/(¬s=1/\s=2)\/(¬s=1/\¬s=2):=ae;rcases hw with g0|⟨g0,g1⟩|⟨g0,g1⟩
  ·have e:b=false:=by rw[D.h];first|(exact decide_eq_true ae)|(exact decide_eq_false ae)
   clear D;subst e;have d0:(s==1)=true:=iW;have c0:(s !=1)=false:=iW;clear g0;go_wp2_with fail;go_meet;exact⟨rfl,rfl⟩
  ·have e:b=false:=by rw[D.h];first|(exact decide_eq_true ae)|(exact decide_eq_false ae)
   clear D;subst e;have d0:(s==1)=false:=iW;have c0:(s !=1)=true:=iW;clear g0;have d1:(s==2)=true:=iW;have c1:(s !=2)=false:=iW;clear g1;go_wp2_with fail;go_meet;exact⟨rfl,rfl⟩
  ·have e:b=true:=by rw[D.h];first|(exact decide_eq_true ae)|(exact decide_eq_false ae)
   clear D;subst e;have d0:(s==1)=false:=iW;have c0:(s !=1)=true:=iW;clear g0;have d1:(s==2)=false:=iW;have c1:(s !=2)=true:=iW;clear g1;go_wp2_with fail;go_meet;exact⟨rfl,rfl⟩
 obtain⟨rfl,rfl⟩:=hcut
 by_cases h:s≠1/\s≠2
 ·have e:b=true:=by rw[D.h];exact decide_eq_true h
  have eO:Hid (O=21):=ao (by have:=I.h;rw[if_pos h] at this;exact this);clear I D;subst e;clear h;go_wp2_with fail;go_ret;exact⟨by rw[eO.h];rfl,BB⟩
 replace I:=ao (I.trans (if_neg h));have e:b=false:=D.h▸decide_eq_false h;clear D h;subst e
 go_upto_region 3 with(fail)
 obtain⟨b,hb⟩:=Zn (decide (t<1\/3<t));have D:=ao hb;clear hb
 go_cut [12] (fun v wx=>v= .bool b/\w0=wx)
 case first=>
  clear I;have hw:(t<1)\/(¬t<1/\3<t)\/(¬t<1/\¬3<t):=ae;rcases hw with g0|⟨g0,g1⟩|⟨g0,g1⟩
  ·have e:b=true:=by rw[D.h];first|(exact decide_eq_true ae)|(exact decide_eq_false ae)
   clear D;subst e;go_wp2_with fail;go_meet;exact⟨rfl,rfl⟩
  ·have e:b=true:=by rw[D.h];first|(exact decide_eq_true ae)|(exact decide_eq_false ae)
   clear D;subst e;go_wp2_with fail;go_meet;exact⟨rfl,rfl⟩
  ·have e:b=false:=by rw[D.h];first|(exact decide_eq_true ae)|(exact decide_eq_false ae)
   clear D;subst e;go_wp2_with fail;go_meet;exact⟨rfl,rfl⟩
 obtain⟨rfl,rfl⟩:=hcut
 by_cases h:t<1\/3<t
 ·have e:b=true:=by rw[D.h];exact decide_eq_true h
  have eO:Hid (O=27):=ao (by have:=I.h;rw[if_pos h] at this;exact this);clear I D;subst e;clear h;go_wp2_with fail;go_ret;exact⟨by rw[eO.h];rfl,BB⟩
 replace I:=ao (I.trans (if_neg h));have e:b=false:=D.h▸decide_eq_false h;clear D h;subst e
 go_upto_region 5 with(fail)
 obtain⟨b,hb⟩:=Zn (decide (¬kL q));have D:=ao hb;clear hb
 go_cut [21] (fun v wx=>v= .bool b/\w0=wx)
 case first=>
  clear I;go_wp2_with fail;refine(xS q _).mono ?_;rintro e u⟨rfl,rfl⟩;obtain⟨b',J⟩:=Zn (decide (kL q));have ay:b= !b':=by rw[D.h,J];by_cases h:kL q<;>simp[h]
  rw[<-J];clear J D;subst ay
  cases b'
  ·go_wp2_with fail
   go_meet;exact⟨rfl,rfl⟩
  ·go_wp2_with fail
   go_meet;exact⟨rfl,rfl⟩
 obtain⟨rfl,rfl⟩:=hcut
 by_cases h:¬kL q
 ·have e:b=true:=by rw[D.h];exact decide_eq_true h
  have eO:Hid (O=24):=ao (by have:=I.h;rw[if_pos h] at this;exact this);clear I D;subst e;clear h;go_wp2_with fail;go_ret;exact⟨by rw[eO.h];rfl,BB⟩
 replace I:=ao (I.trans (if_neg h));have e:b=false:=D.h▸decide_eq_false h;clear D h;subst e
 go_upto_region 7 with(fail)
 obtain⟨b,hb⟩:=Zn (decide (l<0\/q<l));have D:=ao hb;clear hb
 go_cut [26] (fun v wx=>v= .bool b/\w0=wx)
 case first=>
  clear I;have hw:(l<0)\/(¬l<0/\q<l)\/(¬l<0/\¬q<l):=ae;rcases hw with g0|⟨g0,g1⟩|⟨g0,g1⟩
  ·have e:b=true:=by rw[D.h];first|(exact decide_eq_true ae)|(exact decide_eq_false ae)
   clear D;subst e;go_wp2_with fail;go_meet;exact⟨rfl,rfl⟩
  ·have e:b=true:=by rw[D.h];first|(exact decide_eq_true ae)|(exact decide_eq_false ae)
   clear D;subst e;go_wp2_with fail;go_meet;exact⟨rfl,rfl⟩
  ·have e:b=false:=by rw[D.h];first|(exact decide_eq_true ae)|(exact decide_eq_false ae)
   clear D;subst e;go_wp2_with fail;go_meet;exact⟨rfl,rfl⟩
 obtain⟨rfl,rfl⟩:=hcut
 by_cases h:l<0\/q<l
 ·have e:b=true:=by rw[D.h];exact decide_eq_true h
  have eO:Hid (O=28):=ao (by have:=I.h;rw[if_pos h] at this;exact this);clear I D;subst e;clear h;go_wp2_with fail;go_ret;exact⟨by rw[eO.h];rfl,BB⟩
 replace I:=ao (I.trans (if_neg h));have e:b=false:=D.h▸decide_eq_false h;clear D h;subst e
 go_upto_region 9 with(fail)
 obtain⟨b,hb⟩:=Zn (decide (lb≠[]/\Cd lb=false));have D:=ao hb;clear hb
 go_cut [37] (fun v wx=>v= .bool b/\Bz w0 wx)
 case first=>
  clear I
  by_cases h0:lb=[]
  ·have e:b=false:=by rw[D.h];exact decide_eq_false fun h=>h.1 h0
   have d0:=Pd h0;clear D h0;subst e;go_wp2_with fail;go_meet;exact⟨rfl,aa _ _⟩
  ·obtain⟨b',J⟩:=Zn (Cd lb)
   have e:b= !b':=by rw[D.h,J];cases hR:Cd lb<;>simp[h0]
   have d0:=RX h0;have a5:=ao J;clear D h0 J;subst e;go_wp2_with fail;refine(RW lb _ ae).mono ?_;rw[<-a5.h];rintro e w1⟨rfl,b1⟩;go_wp2_with fail;go_meet;exact⟨rfl,b1⟩
 obtain⟨rfl,b1⟩:=hcut;have a0:=hC.below b1;have BB:=dW B0 b1;obtain⟨w1,a2⟩:=Zn wc;rw[<-a2] at a0 BB⊢;clear a2 f0 f1 f2 f3 f4 f5 f6 f7 f8;obtain⟨f0,f1,f2,f3,f4,f5,f6,f7,f8⟩:=a0.reads
 by_cases h:lb≠[]/\Cd lb=false
 ·have e:b=true:=by rw[D.h];exact decide_eq_true h
  have eO:Hid (O=29):=ao (by have:=I.h;rw[if_pos h] at this;exact this);clear I D;subst e;clear h;go_wp2_with fail;go_ret;exact⟨by rw[eO.h];rfl,BB⟩
 replace I:=ao (I.trans (if_neg h));have e:b=false:=D.h▸decide_eq_false h;clear D h;subst e
 go_upto_region 11 with(fail)
 obtain⟨b,hb⟩:=Zn (decide (¬jg p));have D:=ao hb;clear hb
 go_cut [47] (fun v wx=>v= .bool b/\w1=wx)
 case first=>
  clear I;go_wp2_with fail;refine(Fc p _).mono ?_;rintro e u⟨rfl,rfl⟩;obtain⟨b',J⟩:=Zn (decide (jg p));have ay:b= !b':=by rw[D.h,J];by_cases h:jg p<;>simp[h]
  rw[<-J];clear J D;subst ay
  cases b'
  ·go_wp2_with fail
   go_meet;exact⟨rfl,rfl⟩
  ·go_wp2_with fail
   go_meet;exact⟨rfl,rfl⟩
 obtain⟨rfl,rfl⟩:=hcut
 by_cases h:¬jg p
 ·have e:b=true:=by rw[D.h];exact decide_eq_true h
  have eO:Hid (O=23):=ao (by have:=I.h;rw[if_pos h] at this;exact this);clear I D;subst e;clear h;go_wp2_with fail;go_ret;exact⟨by rw[eO.h];rfl,BB⟩
 replace I:=ao (I.trans (if_neg h));have e:b=false:=D.h▸decide_eq_false h;clear D h;subst e
 go_upto_region 13 with(fail)
 obtain⟨b,hb⟩:=Zn (decide (n<0\/255<n));have D:=ao hb;clear hb
 go_cut [52] (fun v wx=>v= .bool b/\w1=wx)
 case first=>
  clear I;have hw:(n<0)\/(¬n<0/\255<n)\/(¬n<0/\¬255<n):=ae;rcases hw with g0|⟨g0,g1⟩|⟨g0,g1⟩
  ·have e:b=true:=by rw[D.h];first|(exact decide_eq_true ae)|(exact decide_eq_false ae)
   clear D;subst e;go_wp2_with fail;go_meet;exact⟨rfl,rfl⟩
  ·have e:b=true:=by rw[D.h];first|(exact decide_eq_true ae)|(exact decide_eq_false ae)
   clear D;subst e;go_wp2_with fail;go_meet;exact⟨rfl,rfl⟩
  ·have e:b=false:=by rw[D.h];first|(exact decide_eq_true ae)|(exact decide_eq_false ae)
   clear D;subst e;go_wp2_with fail;go_meet;exact⟨rfl,rfl⟩
 obtain⟨rfl,rfl⟩:=hcut
 by_cases h:n<0\/255<n
 ·have e:b=true:=by rw[D.h];exact decide_eq_true h
  have eO:Hid (O=20):=ao (by have:=I.h;rw[if_pos h] at this;exact this);clear I D;subst e;clear h;go_wp2_with fail;go_ret;exact⟨by rw[eO.h];rfl,BB⟩
 replace I:=ao (I.trans (if_neg h));have e:b=false:=D.h▸decide_eq_false h;clear D h;subst e;go_wp2_with fail;go_ret;exact⟨by rw[I.h];rfl,BB⟩
theorem nQ (c:bN) (hl:c.ky.length<=9223372036854775807) (w:World):Wz 37 #[c.val] w fun e w'=>e= .returned (Iz (dx c:Nat))/\Bz w w':=by
 obtain⟨O,J⟩:=Zn (dx c);rw[<-J];obtain⟨k,i,n,s,p,q,l,t,lb⟩:=c;unfold dx at J;simp only at J hl;obtain⟨w0,ax⟩:=Zn (w.alloc (.cells (bN.cells ⟨k,i,n,s,p,q,l,t,lb⟩) 35));obtain⟨g,eg⟩:=Zn w.heap.size;have hC:kM w0 g ⟨k,i,n,s,p,q,l,t,lb⟩:=ax▸eg▸kM.new _ _;have B0:Bz w w0:=ax▸au (aa _ _) _;have I:=ao J;clear J;show Wz 37 #[.agg #[Iz k,Iz i,Iz n,Iz s,Iz p,Iz q,Iz l,Iz t, .string (str lb)]] w _
 change w0=w.alloc (.cells #[Iz k,Iz i,Iz n,Iz s,Iz p,Iz q,Iz l,Iz t, .string (str lb)] 35) at ax
 go_enter Tryz.func37,Tryz.ntmps37
 go_upto_region 1 with(fail)
 rw[<-ax,<-eg];clear ax eg;obtain⟨f0,f1,f2,f3,f4,f5,f6,f7,f8⟩:=hC.reads;have BB:=B0;obtain⟨b,hb⟩:=Zn (decide (k<1\/4<k));have D:=ao hb;clear hb
 go_cut [3] (fun v wx=>v= .bool b/\w0=wx)
 case first=>
  clear I;have hw:(k<1)\/(¬k<1/\4<k)\/(¬k<1/\¬4<k):=ae;rcases hw with g0|⟨g0,g1⟩|⟨g0,g1⟩
  ·have e:b=true:=by rw[D.h];first|(exact decide_eq_true ae)|(exact decide_eq_false ae)
   clear D;subst e;go_wp2_with fail;go_meet;exact⟨rfl,rfl⟩
  ·have e:b=true:=by rw[D.h];first|(exact decide_eq_true ae)|(exact decide_eq_false ae)
   clear D;subst e;go_wp2_with fail;go_meet;exact⟨rfl,rfl⟩
  ·have e:b=false:=by rw[D.h];first|(exact decide_eq_true ae)|(exact decide_eq_false ae)
   clear D;subst e;go_wp2_with fail;go_meet;exact⟨rfl,rfl⟩
 obtain⟨rfl,rfl⟩:=hcut
 by_cases h:k<1\/4<k
 ·have e:b=true:=by rw[D.h];exact decide_eq_true h
  have J:Hid (O=31):=ao (by have:=I.h;rw[if_pos h] at this;exact this);clear I D;subst e;clear h;go_wp2_with fail;go_ret;exact⟨by rw[J.h];rfl,BB⟩
 replace I:=ao (I.trans (if_neg h));have e:b=false:=D.h▸decide_eq_false h;clear D h;subst e
 go_upto_region 3 with(fail)
 obtain⟨b,hb⟩:=Zn (decide (i<1\/1099511627776<i));have D:=ao hb;clear hb
 go_cut [12] (fun v wx=>v= .bool b/\w0=wx)
 case first=>
  clear I;have hw:(i<1)\/(¬i<1/\1099511627776<i)\/(¬i<1/\¬1099511627776<i):=ae;rcases hw with g0|⟨g0,g1⟩|⟨g0,g1⟩
  ·have e:b=true:=by rw[D.h];first|(exact decide_eq_true ae)|(exact decide_eq_false ae)
   clear D;subst e;go_wp2_with fail;go_meet;exact⟨rfl,rfl⟩
  ·have e:b=true:=by rw[D.h];first|(exact decide_eq_true ae)|(exact decide_eq_false ae)
   clear D;subst e;go_wp2_with fail;go_meet;exact⟨rfl,rfl⟩
  ·have e:b=false:=by rw[D.h];first|(exact decide_eq_true ae)|(exact decide_eq_false ae)
   clear D;subst e;go_wp2_with fail;go_meet;exact⟨rfl,rfl⟩
 obtain⟨rfl,rfl⟩:=hcut
 by_cases h:i<1\/1099511627776<i
 ·have e:b=true:=by rw[D.h];exact decide_eq_true h
  have J:Hid (O=1):=ao (by have:=I.h;rw[if_pos h] at this;exact this);clear I D;subst e;clear h;go_wp2_with fail;go_ret;exact⟨by rw[J.h];rfl,BB⟩
 replace I:=ao (I.trans (if_neg h));have e:b=false:=D.h▸decide_eq_false h;clear D h;subst e
 by_cases hk:k=1
 ·have J:=ao (I.trans (if_pos hk))
  have hd:(k==1)=true:=by simpa using hk
  clear I hk;go_wp2_with fail;refine(Pe ⟨k,i,n,s,p,q,l,t,lb⟩ hl _).mono ?_;rw[<-J.h];rintro e u⟨rfl,b1⟩;go_wp2_with fail;go_ret;exact⟨rfl,dW BB b1⟩
 replace I:=ao (I.trans (if_neg hk));have hd:(k==1)=false:=by simpa using hk
 clear hk
 go_upto_region 7 with(fail)
 obtain⟨b,hb⟩:=Zn (decide (k≠2/\¬kL q));have D:=ao hb;clear hb
 go_cut [27] (fun v wx=>v= .bool b/\w0=wx)
 case first=>
  clear I;have hw:(k=2)\/(¬k=2):=ae;rcases hw with g0|g0
  ·have e:b=false:=by rw[D.h];exact decide_eq_false fun h=>h.1 g0
   clear D;subst e;have d0:(k==2)=true:=iW;have c0:(k !=2)=false:=iW;clear g0;go_wp2_with fail;go_meet;exact⟨rfl,rfl⟩
  ·obtain⟨b2,ay⟩:=Zn (decide (kL q))
   have a0:=ao ay;clear ay;have e:b= !b2:=by rw[D.h];rw[a0.h];by_cases h:kL q<;>simp[h,g0]
   clear D;subst e;have d0:(k==2)=false:=iW;have c0:(k !=2)=true:=iW;clear g0;go_wp2_with fail;refine(xS q _).mono ?_;rw[<-a0.h];rintro e u⟨rfl,rfl⟩;go_wp2_with fail;go_meet;exact⟨rfl,rfl⟩
 obtain⟨rfl,rfl⟩:=hcut
 by_cases h:k≠2/\¬kL q
 ·have e:b=true:=by rw[D.h];exact decide_eq_true h
  have J:Hid (O=24):=ao (by have:=I.h;rw[if_pos h] at this;exact this);clear I D;subst e;clear h;go_wp2_with fail;go_ret;exact⟨by rw[J.h];rfl,BB⟩
 replace I:=ao (I.trans (if_neg h));have e:b=false:=D.h▸decide_eq_false h;clear D h;subst e
 go_upto_region 9 with(fail)
 obtain⟨b,hb⟩:=Zn (decide (k=4/\¬jg p));have D:=ao hb;clear hb
 go_cut [37] (fun v wx=>v= .bool b/\w0=wx)
 case first=>
  clear I;have hw:(¬k=4)\/(k=4):=ae;rcases hw with g0|g0
  ·have e:b=false:=by rw[D.h];exact decide_eq_false fun h=>g0 h.1
   clear D;subst e;have d0:(k==4)=false:=iW;have c0:(k !=4)=true:=iW;clear g0;go_wp2_with fail;go_meet;exact⟨rfl,rfl⟩
  ·obtain⟨b2,ay⟩:=Zn (decide (jg p))
   have a0:=ao ay;clear ay;have e:b= !b2:=by rw[D.h];rw[a0.h];by_cases h:jg p<;>simp[h,g0]
   clear D;subst e;have d0:(k==4)=true:=iW;have c0:(k !=4)=false:=iW;clear g0;go_wp2_with fail;refine(Fc p _).mono ?_;rw[<-a0.h];rintro e u⟨rfl,rfl⟩;go_wp2_with fail;go_meet;exact⟨rfl,rfl⟩
 obtain⟨rfl,rfl⟩:=hcut
 by_cases h:k=4/\¬jg p
 ·have e:b=true:=by rw[D.h];exact decide_eq_true h
  have J:Hid (O=23):=ao (by have:=I.h;rw[if_pos h] at this;exact this);clear I D;subst e;clear h;go_wp2_with fail;go_ret;exact⟨by rw[J.h];rfl,BB⟩
 replace I:=ao (I.trans (if_neg h));have e:b=false:=D.h▸decide_eq_false h;clear D h;subst e;go_wp2_with fail;go_ret;exact⟨by rw[I.h];rfl,BB⟩
structure Dk (R:World→Nat→Rd→Prop) (w0 w:World) (g2 d g5:Nat) (z:bN) (s:Rd):Prop where
 r:R w d s
 zero:kM w g2 bN.zero
 cmd:kM w g5 z
 lt:w0.heap.size≤g2∧g2<d∧d<g5
 jm:Bz w0 w
theorem kM.block (h:kM w g c) (D:w'.heap[g]?=w.heap[g]?):kM w' g c:=D.trans h
theorem kM.frozen (h:kM w g c) (i:Nat):w.frozen? ⟨g,i,none⟩=false:=by
 unfold kM at h;simp[World.frozen?,h]
theorem kM.set (h:kM w g c) (i:Nat) (u:Value) (c':bN) (hc:c.cells.setIfInBounds i u=c'.cells):kM (w.setCell ⟨g,i,none⟩ u) g c':=by
 unfold kM at*;rw[heap_setCell_same _ _ _ _ _ _ h,hc]
theorem Leaves.jd (D:Bz w0 w) (L:Leaves d none w w') (hd:w0.heap.size<=d):Bz w0 w':=
 D.trans (L.below hd (fun g hg=>by cases hg) D.size)
theorem Dk.read {s':Rd} (h:Dk R w0 w g2 d g5 z s) (hr:R w' d s') (L:Leaves d none w w'):Dk R w0 w' g2 d g5 z s':=by
 have D:=h.lt;exact⟨hr,h.zero.block (L.block g2 h.zero.lt ae bT),h.cmd.block (L.block g5 h.cmd.lt ae bT),D,Leaves.jd h.jm L ae⟩
theorem Dk.store (hR:∀(w w':World) (d D:Nat) (s:Rd),R w d s->Leaves D none w w'->d<D->R w' d s) (h:Dk R w0 w g2 d g5 z s) (i:Nat) (u:Value) (z':bN) (J:z.cells.setIfInBounds i u=z'.cells):
  Dk R w0 (w.setCell ⟨g5,i,none⟩ u) g2 d g5 z' s:=by
 have I:=h.lt;have L:Leaves g5 none w (w.setCell ⟨g5,i,none⟩ u):=(Leaves.refl g5 none w).setCell i u;exact⟨hR _ _ _ _ _ h.r L I.2.2,h.zero.block (L.block g2 h.zero.lt ae bT),h.cmd.set i u z' J,I,Leaves.jd h.jm L ae⟩
theorem Dk.below (h:Dk R w0 w g2 d g5 z s) (hr:R w' d s) (D:Bz w w'):Dk R w0 w' g2 d g5 z s:=
 ⟨hr,h.zero.below D,h.cmd.below D,h.lt,h.jm.trans (D.mono h.jm.size)⟩
theorem jQ (w w':World) (d D:Nat) (s:Rd) (h:cr w d s) (L:Leaves D none w w') (hd:d<D):cr w' d s:=h.other L hd
theorem xW (d:Nat) (s:Rd) (w:World) (h:cr w d s):
  Wz 121 #[Pz d] w fun e w'=>e= .returned (Iz (s.byteOf:Nat))/\cr w' d (s.left 1)/\Leaves d none w w':=
 (Fb d s w h).mono fun e w' ⟨I,D⟩=>⟨I,D.at_,D.leaves⟩
theorem pS (d:Nat) (s:Rd) (w:World) (h:cr w d s):
  Wz 122 #[Pz d] w fun e w'=>e= .returned (Iz s.ix)/\cr w' d (s.left 8)/\Leaves d none w w':=
 (O6 d s w h).mono fun e w' ⟨I,D⟩=>⟨I,D.at_,D.leaves⟩
theorem R4 (d:Nat) (s:Rd) (w:World) (h:cr w d s):
  Wz 123 #[Pz d] w fun e w'=>e= .returned (.string (str s.nO))/\cr w' d s.pO/\Leaves d none w w':=
 (O8 d s w h).mono fun e w' ⟨I,D⟩=>⟨I,D.at_,D.leaves⟩
theorem zZ (d:Nat) (s:Rd) (w:World) (h:cr w d s):
  Wz 124 #[Pz d] w fun e w'=>e= .returned (Iz s.vV)/\Bz w w':=
 (RP d s w h).mono fun e w' ⟨D,I⟩=>⟨D,I▸aa _ _⟩
def R5 (w:World) (b:List UInt8) (e:Ending) (w':World):Prop:=e= .returned (.tuple #[(zF b).1.val,Iz ((zF b).2:Nat)])∧Bz w w'
def lA (w:World) (g:Nat) (c:bN):World:=
 ((((((((w.setCell ⟨g,0,none⟩ (Iz c.kind)).setCell ⟨g,1,none⟩ (Iz c.id)).setCell ⟨g,2,none⟩ (Iz c.inst)).setCell ⟨g,3,none⟩ (Iz c.side)).setCell ⟨g,4,none⟩ (Iz c.ag)).setCell ⟨g,5,none⟩ (Iz c.aw)).setCell ⟨g,6,none⟩ (Iz c.least)).setCell ⟨g,7,none⟩ (Iz c.time)).setCell ⟨g,8,none⟩ (.string (str c.ky))
theorem iA (h:kM w g c) (c':bN):kM (lA w g c') g c'/\Leaves g none w (lA w g c'):=by
 refine⟨?_,((((((((((Leaves.refl g none w).setCell 0 _).setCell 1 _).setCell 2 _).setCell 3 _).setCell 4 _).setCell 5 _).setCell 6 _).setCell 7 _).setCell 8 _)⟩;unfold kM at h⊢;unfold lA;rw[heap_setCell_same _ _ _ _ _ _ (heap_setCell_same _ _ _ _ _ _ (heap_setCell_same _ _ _ _ _ _ (heap_setCell_same _ _ _ _ _ _ (heap_setCell_same _ _ _ _ _ _ (heap_setCell_same _ _ _ _ _ _ (heap_setCell_same _ _ _ _ _ _ (heap_setCell_same _ _ _ _ _ _ (heap_setCell_same _ _ _ _ _ _ h))))))))];simp[bN.cells]
theorem kM.cL (h:kM w g c):
  w.cell? ⟨g,0,none⟩=some (Iz c.kind)/\w.cell? ⟨g,1,none⟩=some (Iz c.id)/\w.cell? ⟨g,2,none⟩=some (Iz c.inst)/\w.cell? ⟨g,3,none⟩=some (Iz c.side)/\w.cell? ⟨g,4,none⟩=some (Iz c.ag)/\
  w.cell? ⟨g,5,none⟩=some (Iz c.aw)/\w.cell? ⟨g,6,none⟩=some (Iz c.least)/\w.cell? ⟨g,7,none⟩=some (Iz c.time)/\w.cell? ⟨g,8,none⟩=some (.string (str c.ky)):=
 ⟨h.cell 0,h.cell 1,h.cell 2,h.cell 3,h.cell 4,h.cell 5,h.cell 6,h.cell 7,h.cell 8⟩
theorem Lk (s:Rd):s.nO.length<=9223372036854775807:=by
 have D:=s.pB;have I:=(s.left 1).uw s.byteOf;unfold Rd.nO;omega
theorem post_at {P:Program} {fn:Func} {R:Ending->World->Prop} {x:Exit} {a:Act} (h:w'=w) (k:bodyPost P fn R x a w'):bodyPost P fn R x a w:=h▸k
theorem Ll (A:Option Addr) (n c:Nat) (b:List UInt8) (w:World) (hn:b.length=n) (hl:n<=140737488355328) (hc:n<=c) (d2:c<=9223372036854775807) (hA:Cells w A (ij b)):
  Wz 83 #[.slice A n c] w (R5 w b):=by
 obtain⟨Z,eZ⟩:=Zn ((zF b).1);obtain⟨Y,eY⟩:=Zn ((zF b).2);have hZ:zF b=(Z,Y):=by rw[eZ,eY]
 have HP:R5 w b=fun e w'=>e= .returned (.tuple #[Z.val,Iz (Y:Nat)])/\Bz w w':=by rw[eZ,eY];rfl
 rw[HP];unfold zF at hZ;obtain⟨s0,bt⟩:=Zn (Hj b);rw[<-bt] at hZ;obtain⟨HS,HZ,HN⟩:=fY bt hZ hn;clear bt;clear HP eZ eY hZ hn
 go_enter Tryz.func83,Tryz.ntmps83
 obtain⟨wa,a7⟩:=Zn (w.alloc (.cells bN.zero.cells 35));obtain⟨g2,bc⟩:=Zn w.heap.size;have a5:kM wa g2 bN.zero:=a7▸bc▸kM.new _ _;have Ba:Bz w wa:=a7▸au (aa _ _) _
 change wa=w.alloc (.cells #[Iz 0,Iz 0,Iz 0,Iz 0,Iz 0,Iz 0,Iz 0,Iz 0, .string {data:=#[]}] 35) at a7
 go_upto_region 1 with(fail)
 rw[<-a7,<-bc];have cd:=hA.below Ba;have EG:=ao bc;clear a7 bc hA;go_wp2_with fail;refine(DK A n c b _ HN ae cd).mono ?_;rintro e w1⟨d,rfl,hd,R1,B1⟩;have bH:=a5.below B1;have d5:=a5.lt;have BB:=dW Ba B1;clear cd Ba B1 a5;go_wp2_with fail;replace R1:cr w1 d s0:=HS.h▸R1;refine(xW d s0 _ R1).mono ?_;rintro e w2⟨rfl,R2,L2⟩;have a5:=bH.block (L2.block g2 bH.lt ae bT);have B2:=Leaves.jd BB L2 (cA EG.h);obtain⟨kb,bf⟩:=Zn s0.byteOf;obtain⟨s1,bQ⟩:=Zn (s0.left 1);rw[<-bQ] at R2;replace HZ:=HZ.h;rw[<-bf,<-bQ] at HZ;rw[<-bf];have d6:kb<256:=bf▸s0.pB;obtain⟨id,bU⟩:=Zn s1.ix;obtain⟨s2,bV⟩:=Zn (s1.left 8);rw[<-bU,<-bV] at HZ;obtain⟨ck,cl⟩:=dF bU bV;replace HZ:=ao HZ;clear bf bQ bU bV R1 HS BB L2 bH;obtain⟨w3,a8⟩:=Zn (w2.alloc (.cells (bN.cells {bN.zero with kind:=kb}) 35));obtain⟨g5,bh⟩:=Zn w2.heap.size;have B3:Bz w2 w3:=a8▸au (aa _ _) _;have D3:Dk cr w w3 g2 d g5 ⟨kb,0,0,0,0,0,0,0,[]⟩ s1:=by
  refine⟨R2.below B3,a5.below B3,a8▸bh▸kM.new _ _,⟨cA EG.h,ae,?_⟩,dW B2 B3⟩;rw[bh];exact R2.lt
 change w3=w2.alloc (.cells #[Iz kb,Iz 0,Iz 0,Iz 0,Iz 0,Iz 0,Iz 0,Iz 0, .string {data:=#[]}] 35) at a8
 go_upto_region 3 with(fail)
 rw[<-a8,<-bh];have D3:=ao D3;clear a8 bh B3 R2 a5 B2;have x0:Cz w3 g5 0 (Iz kb):=D3.cmd.cell 0
 by_cases hk:kb<1\/4<kb
 ·obtain⟨rfl,rfl⟩:Z=bN.zero/\Y=31:=by
   have:=HZ.h;rw[if_pos hk] at this;injection this with h1 h2;exact⟨h1.symm,h2.symm⟩
  obtain⟨z0,z1,z2,z3,z4,z5,z6,z7,z8⟩:=D3.h.zero.cL;have y0:=D3.h.zero.frozen 0;have y1:=D3.h.zero.frozen 1;have y2:=D3.h.zero.frozen 2;have y3:=D3.h.zero.frozen 3;have y4:=D3.h.zero.frozen 4;have y5:=D3.h.zero.frozen 5;have y6:=D3.h.zero.frozen 6;have y7:=D3.h.zero.frozen 7;have y8:=D3.h.zero.frozen 8;clear HZ;rcases hk with h1|h1
  ·have i1:(kb:Int)<1:=ae
   go_wp2_with fail;have hf:=iA D3.zero bN.zero;obtain⟨wz,J⟩:=Zn (lA w3 g2 bN.zero);rw[<-J] at hf
   (try simp only[Exit.inBlock,Exit.then])
   refine post_at J ?_;obtain⟨r0,r1,r2,r3,r4,r5,r6,r7,r8⟩:=hf.1.cL;refine bodyPost_ret (v:= .tuple #[bN.val bN.zero,Iz (31:Nat)]) (by simp[results,Tryz.results83,go_sem,r0,r1,r2,r3,r4,r5,r6,r7,r8];try rfl) rfl ?_;exact⟨rfl,Leaves.jd D3.jm hf.2 (cA EG.h)⟩
  ·have i1:¬(kb:Int)<1:=ae
   have i2:(4:Int)<kb:=ae;go_wp2_with fail;have hf:=iA D3.zero bN.zero;obtain⟨wz,J⟩:=Zn (lA w3 g2 bN.zero);rw[<-J] at hf
   (try simp only[Exit.inBlock,Exit.then])
   refine post_at J ?_;obtain⟨r0,r1,r2,r3,r4,r5,r6,r7,r8⟩:=hf.1.cL;refine bodyPost_ret (v:= .tuple #[bN.val bN.zero,Iz (31:Nat)]) (by simp[results,Tryz.results83,go_sem,r0,r1,r2,r3,r4,r5,r6,r7,r8];try rfl) rfl ?_;exact⟨rfl,Leaves.jd D3.jm hf.2 (cA EG.h)⟩
 replace HZ:=ao (HZ);have D:=ao ((if_neg hk).symm.trans HZ);clear HZ;have i1:¬(kb:Int)<1:=ae;have i2:¬(4:Int)<kb:=ae
 go_upto_region 5 with(fail)
 clear x0 i1 i2;go_wp2_with fail;refine(pS d s1 _ D3.r).mono ?_;rintro e w4⟨rfl,r,L⟩;rw[<-cl.h] at r;rw[<-ck.h];have D4:=ao (D3.read r L);clear r L D3;have y1:=D4.h.cmd.frozen 1;have x1:=D4.h.cmd.cL.2.1
 go_upto_region 6 with(fail)
 have D5:=(D4.store jQ 1 (Iz id) ⟨(kb:Int),id,0,0,0,0,0,0,[]⟩ rfl);obtain⟨w5,ew⟩:=Zn (w4.setCell ⟨g5,1,none⟩ (Iz id));rw[<-ew] at D5⊢;have D5:=ao D5;clear ew D4 y1 x1;have x0:=D5.h.cmd.cL.1;simp only at x0
 by_cases h1:(kb:Int)=1
 ·have d1:((kb:Int)==1)=true:=by simpa using h1
  have HK:=ao h1;clear h1;go_wp2_with fail;refine(xW d s2 _ D5.r).mono ?_;rintro e w6⟨rfl,r,L⟩;obtain⟨v2,ev⟩:=Zn s2.byteOf;obtain⟨s3,es⟩:=Zn (s2.left 1);rw[<-es] at r;rw[<-ev];obtain⟨ba,bb⟩:=dF ev es;clear ev es;have D6:=ao (D5.read r L);clear r L D5;go_wp2_with fail;refine(xW d s3 _ D6.r).mono ?_;rintro e w7⟨rfl,r,L⟩;obtain⟨v3,ev⟩:=Zn s3.byteOf;obtain⟨s4,es⟩:=Zn (s3.left 1);rw[<-es] at r;rw[<-ev];obtain⟨b0,b2⟩:=dF ev es;clear ev es;have D7:=ao (D6.read r L);clear r L D6;go_wp2_with fail;refine(xW d s4 _ D7.r).mono ?_;rintro e w8⟨rfl,r,L⟩;obtain⟨v4,ev⟩:=Zn s4.byteOf;obtain⟨s5,es⟩:=Zn (s4.left 1);rw[<-es] at r;rw[<-ev];obtain⟨cm,cn⟩:=dF ev es;clear ev es;have D8:=ao (D7.read r L);clear r L D7;have y2:=D8.h.cmd.frozen 2;have x2:=D8.h.cmd.cL.2.2.1;have y3:=D8.h.cmd.frozen 3;have x3:=D8.h.cmd.cL.2.2.2.1;have y7:=D8.h.cmd.frozen 7;have x7:=D8.h.cmd.cL.2.2.2.2.2.2.2.1
  go_upto_region 9 with(fail)
  have D9:=(((D8.store jQ 2 (Iz ((v2:Nat):Int)) ⟨(kb:Int),id,((v2:Nat):Int),0,0,0,0,0,[]⟩ rfl).store jQ 3 (Iz ((v3:Nat):Int)) ⟨(kb:Int),id,((v2:Nat):Int),((v3:Nat):Int),0,0,0,0,[]⟩ rfl).store jQ 7 (Iz ((v4:Nat):Int)) ⟨(kb:Int),id,((v2:Nat):Int),((v3:Nat):Int),0,0,0,((v4:Nat):Int),[]⟩ rfl);obtain⟨w9,ew⟩:=Zn (((w8.setCell ⟨g5,2,none⟩ (Iz ((v2:Nat):Int))).setCell ⟨g5,3,none⟩ (Iz ((v3:Nat):Int))).setCell ⟨g5,7,none⟩ (Iz ((v4:Nat):Int)));rw[<-ew] at D9⊢;have D9:=ao D9;clear ew D8 y2 x2 y3 x3 y7 x7;go_wp2_with fail;refine(pS d s5 _ D9.r).mono ?_;rintro e d7⟨rfl,r,L⟩;obtain⟨v5,ev⟩:=Zn s5.ix;obtain⟨s6,es⟩:=Zn (s5.left 8);rw[<-es] at r;rw[<-ev];obtain⟨ct,cv⟩:=dF ev es;clear ev es;have b7:=ao (D9.read r L);clear r L D9;go_wp2_with fail;refine(pS d s6 _ b7.r).mono ?_;rintro e d8⟨rfl,r,L⟩;obtain⟨v6,ev⟩:=Zn s6.ix;obtain⟨s7,es⟩:=Zn (s6.left 8);rw[<-es] at r;rw[<-ev];obtain⟨cF,cH⟩:=dF ev es;clear ev es;have b8:=ao (b7.read r L);clear r L b7;go_wp2_with fail;refine(pS d s7 _ b8.r).mono ?_;rintro e cQ⟨rfl,r,L⟩;obtain⟨v7,ev⟩:=Zn s7.ix;obtain⟨s8,es⟩:=Zn (s7.left 8);rw[<-es] at r;rw[<-ev];obtain⟨cS,cT⟩:=dF ev es;clear ev es;have ay:=ao (b8.read r L);clear r L b8;have y4:=ay.h.cmd.frozen 4;have x4:=ay.h.cmd.cL.2.2.2.2.1;have y5:=ay.h.cmd.frozen 5;have x5:=ay.h.cmd.cL.2.2.2.2.2.1;have y6:=ay.h.cmd.frozen 6;have x6:=ay.h.cmd.cL.2.2.2.2.2.2.1
  go_upto_region 10 with(fail)
  have a6:=(((ay.store jQ 4 (Iz v5) ⟨(kb:Int),id,((v2:Nat):Int),((v3:Nat):Int),v5,0,0,((v4:Nat):Int),[]⟩ rfl).store jQ 5 (Iz v6) ⟨(kb:Int),id,((v2:Nat):Int),((v3:Nat):Int),v5,v6,0,((v4:Nat):Int),[]⟩ rfl).store jQ 6 (Iz v7) ⟨(kb:Int),id,((v2:Nat):Int),((v3:Nat):Int),v5,v6,v7,((v4:Nat):Int),[]⟩ rfl);obtain⟨d9,ew⟩:=Zn (((cQ.setCell ⟨g5,4,none⟩ (Iz v5)).setCell ⟨g5,5,none⟩ (Iz v6)).setCell ⟨g5,6,none⟩ (Iz v7));rw[<-ew] at a6⊢;have a6:=ao a6;clear ew ay y4 x4 y5 x5 y6 x6;go_wp2_with fail;refine(R4 d s8 _ a6.r).mono ?_;rintro e cX⟨rfl,r,L⟩;obtain⟨v8,ev⟩:=Zn s8.nO;obtain⟨s9,es⟩:=Zn s8.pO;rw[<-es] at r;rw[<-ev];have cf:v8.length<=9223372036854775807:=ev▸Lk _;obtain⟨c0,dc⟩:=dF ev es;clear ev es;have bp:=ao (a6.read r L);clear r L a6;have y8:=bp.h.cmd.frozen 8;have x8:=bp.h.cmd.cL.2.2.2.2.2.2.2.2
  go_upto_region 15 with(fail)
  have a0:=(bp.store jQ 8 (.string (str v8)) ⟨(kb:Int),id,((v2:Nat):Int),((v3:Nat):Int),v5,v6,v7,((v4:Nat):Int),v8⟩ rfl);obtain⟨ea,ew⟩:=Zn (cX.setCell ⟨g5,8,none⟩ (.string (str v8)));rw[<-ew] at a0⊢;have a0:=ao a0;clear ew bp y8 x8;have hF:fL kb id s2=(⟨(kb:Int),id,((v2:Nat):Int),((v3:Nat):Int),v5,v6,v7,((v4:Nat):Int),v8⟩,s9):=by
   simp only[fL,if_pos HK.h,ba.h,bb.h,b0.h,b2.h,cm.h,cn.h,ct.h,cv.h,cF.h,cH.h,cS.h,cT.h,c0.h,dc.h]
  replace D:=D.h;rw[hF] at D;simp only at D;clear hF;obtain⟨z,ez⟩:=Zn (⟨(kb:Int),id,((v2:Nat):Int),((v3:Nat):Int),v5,v6,v7,((v4:Nat):Int),v8⟩:bN);have a2:z.ky.length<=9223372036854775807:=ez▸cf;have HR:=ao (fun w=>nQ z a2 w);rw[<-ez] at D;obtain⟨Rz,eR⟩:=Zn (dx z);obtain⟨E,eE⟩:=Zn s9.vV;rw[<-eE,<-eR] at D;replace D:=ao D;replace HR:=HR.h;rw[<-eR] at HR;obtain⟨HR,EZ⟩:=dF HR ez;go_wp2_with fail;refine(zZ d s9 _ a0.r).mono ?_;rw[<-eE];clear eE eR;rintro e wE⟨rfl,bE⟩;have O:=a0.h.below (cr.below a0.r bE) bE;clear bE a0;obtain⟨q0,q1,q2,q3,q4,q5,q6,q7,q8⟩:=O.cmd.cL;have CC:=O.cmd;rw[<-ez] at CC;clear ez;simp only at q0 q1 q2 q3 q4 q5 q6 q7 q8;obtain⟨O,CC⟩:=dF O CC
  by_cases hE:E=0
  rotate_left
  ·have i1:(E !=0)=true:=by simpa using hE
   obtain⟨rfl,rfl⟩:Z=bN.zero/\Y=12:=by
    have:=D.h;rw[if_pos hE] at this;injection this with h1 h2;exact⟨h1.symm,h2.symm⟩
   obtain⟨z0,z1,z2,z3,z4,z5,z6,z7,z8⟩:=O.h.zero.cL;have y0:=O.h.zero.frozen 0;have y1:=O.h.zero.frozen 1;have y2:=O.h.zero.frozen 2;have y3:=O.h.zero.frozen 3;have y4:=O.h.zero.frozen 4;have y5:=O.h.zero.frozen 5;have y6:=O.h.zero.frozen 6;have y7:=O.h.zero.frozen 7;have y8:=O.h.zero.frozen 8;clear hE D HR;go_wp2_with fail;have hf:=iA O.zero bN.zero;obtain⟨wz,J⟩:=Zn (lA wE g2 bN.zero);rw[<-J] at hf
   (try simp only[Exit.inBlock,Exit.then])
   refine post_at J ?_;obtain⟨r0,r1,r2,r3,r4,r5,r6,r7,r8⟩:=hf.1.cL;refine bodyPost_ret (v:= .tuple #[bN.val bN.zero,Iz (12:Nat)]) (by simp[results,Tryz.results83,go_sem,r0,r1,r2,r3,r4,r5,r6,r7,r8];try rfl) rfl ?_;exact⟨rfl,Leaves.jd O.jm hf.2 (cA EG.h)⟩
  ·subst hE
   replace D:=ao ((if_neg bT).symm.trans D);go_wp2_with fail;have ax:=HR.h wE;rw[EZ.h] at ax;refine ax.mono ?_;clear ax q0 q1 q2 q3 q4 q5 q6 q7 q8 HR;rintro e wR⟨rfl,bR⟩;have CR:=CC.h.below bR;have I:=O.h.zero.below bR;have BR:=dW O.jm bR;have b9:=O.h.lt.1;clear bR CC O
   by_cases hR:Rz=0
   rotate_left
   ·have i1:((Rz:Int) !=0)=true:=iW
    obtain⟨rfl,rfl⟩:Z=bN.zero/\Y=Rz:=by
     have:=D.h;rw[if_pos hR] at this;injection this with h1 h2;exact⟨h1.symm,h2.symm⟩
    obtain⟨z0,z1,z2,z3,z4,z5,z6,z7,z8⟩:=I.cL;have y0:=I.frozen 0;have y1:=I.frozen 1;have y2:=I.frozen 2;have y3:=I.frozen 3;have y4:=I.frozen 4;have y5:=I.frozen 5;have y6:=I.frozen 6;have y7:=I.frozen 7;have y8:=I.frozen 8;have I:=ao I;clear D hR CR EZ;go_wp2_with fail;have hf:=iA I bN.zero;obtain⟨wz,J⟩:=Zn (lA wR g2 bN.zero);rw[<-J] at hf
    (try simp only[Exit.inBlock,Exit.then])
    refine post_at J ?_;obtain⟨r0,r1,r2,r3,r4,r5,r6,r7,r8⟩:=hf.1.cL;refine bodyPost_ret (v:= .tuple #[bN.val bN.zero,Iz (Y:Nat)]) (by simp[results,Tryz.results83,go_sem,r0,r1,r2,r3,r4,r5,r6,r7,r8];try rfl) rfl ?_;exact⟨rfl,Leaves.jd BR hf.2 (cA EG.h)⟩
   ·subst hR
    obtain⟨rfl,rfl⟩:Z=z/\Y=0:=by
     have:=D.h;rw[if_neg bT] at this;injection this with h1 h2;exact⟨h1.symm,h2.symm⟩
    obtain⟨q0,q1,q2,q3,q4,q5,q6,q7,q8⟩:=CR.cL;obtain⟨z0,z1,z2,z3,z4,z5,z6,z7,z8⟩:=I.cL;have y0:=I.frozen 0;have y1:=I.frozen 1;have y2:=I.frozen 2;have y3:=I.frozen 3;have y4:=I.frozen 4;have y5:=I.frozen 5;have y6:=I.frozen 6;have y7:=I.frozen 7;have y8:=I.frozen 8;have I:=ao I;clear D CR EZ;go_wp2_with fail;have hf:=iA I Z;obtain⟨wz,J⟩:=Zn (lA wR g2 Z);rw[<-J] at hf
    (try simp only[Exit.inBlock,Exit.then])
    refine post_at J ?_;obtain⟨r0,r1,r2,r3,r4,r5,r6,r7,r8⟩:=hf.1.cL;refine bodyPost_ret (v:= .tuple #[bN.val Z,Iz (0:Nat)]) (by simp[results,Tryz.results83,go_sem,r0,r1,r2,r3,r4,r5,r6,r7,r8];try rfl) rfl ?_;exact⟨rfl,Leaves.jd BR hf.2 (cA EG.h)⟩
 have d1:((kb:Int)==1)=false:=by simpa using h1
 by_cases h3:(kb:Int)=3
 ·have d3:((kb:Int)==3)=true:=by simpa using h3
  have HK:=ao h3;clear h3;go_wp2_with fail;refine(pS d s2 _ D5.r).mono ?_;rintro e w6⟨rfl,r,L⟩;obtain⟨v2,ev⟩:=Zn s2.ix;obtain⟨s3,es⟩:=Zn (s2.left 8);rw[<-es] at r;rw[<-ev];obtain⟨ba,bb⟩:=dF ev es;clear ev es;have D6:=ao (D5.read r L);clear r L D5;have y5:=D6.h.cmd.frozen 5;have x5:=D6.h.cmd.cL.2.2.2.2.2.1
  go_upto_region 15 with(fail)
  have D7:=(D6.store jQ 5 (Iz v2) ⟨(kb:Int),id,0,0,0,v2,0,0,[]⟩ rfl);obtain⟨w7,ew⟩:=Zn (w6.setCell ⟨g5,5,none⟩ (Iz v2));rw[<-ew] at D7⊢;have D7:=ao D7;clear ew D6 y5 x5;have hF:fL kb id s2=(⟨(kb:Int),id,0,0,0,v2,0,0,[]⟩,s3):=by
   simp[fL,HK.h,ba.h,bb.h,bN.zero]
  replace D:=D.h;rw[hF] at D;simp only at D;clear hF;obtain⟨z,ez⟩:=Zn (⟨(kb:Int),id,0,0,0,v2,0,0,[]⟩:bN);have a2:z.ky.length<=9223372036854775807:=by rw[ez];simp
  have HR:=ao (fun w=>nQ z a2 w);rw[<-ez] at D;obtain⟨Rz,eR⟩:=Zn (dx z);obtain⟨E,eE⟩:=Zn s3.vV;rw[<-eE,<-eR] at D;replace D:=ao D;replace HR:=HR.h;rw[<-eR] at HR;obtain⟨HR,EZ⟩:=dF HR ez;go_wp2_with fail;refine(zZ d s3 _ D7.r).mono ?_;rw[<-eE];clear eE eR;rintro e wE⟨rfl,bE⟩;have O:=D7.h.below (cr.below D7.r bE) bE;clear bE D7;obtain⟨q0,q1,q2,q3,q4,q5,q6,q7,q8⟩:=O.cmd.cL;have CC:=O.cmd;rw[<-ez] at CC;clear ez;simp only at q0 q1 q2 q3 q4 q5 q6 q7 q8;obtain⟨O,CC⟩:=dF O CC
  by_cases hE:E=0
  rotate_left
  ·have i1:(E !=0)=true:=by simpa using hE
   obtain⟨rfl,rfl⟩:Z=bN.zero/\Y=12:=by
    have:=D.h;rw[if_pos hE] at this;injection this with h1 h2;exact⟨h1.symm,h2.symm⟩
   obtain⟨z0,z1,z2,z3,z4,z5,z6,z7,z8⟩:=O.h.zero.cL;have y0:=O.h.zero.frozen 0;have y1:=O.h.zero.frozen 1;have y2:=O.h.zero.frozen 2;have y3:=O.h.zero.frozen 3;have y4:=O.h.zero.frozen 4;have y5:=O.h.zero.frozen 5;have y6:=O.h.zero.frozen 6;have y7:=O.h.zero.frozen 7;have y8:=O.h.zero.frozen 8;clear hE D HR;go_wp2_with fail;have hf:=iA O.zero bN.zero;obtain⟨wz,J⟩:=Zn (lA wE g2 bN.zero);rw[<-J] at hf
   (try simp only[Exit.inBlock,Exit.then])
   refine post_at J ?_;obtain⟨r0,r1,r2,r3,r4,r5,r6,r7,r8⟩:=hf.1.cL;refine bodyPost_ret (v:= .tuple #[bN.val bN.zero,Iz (12:Nat)]) (by simp[results,Tryz.results83,go_sem,r0,r1,r2,r3,r4,r5,r6,r7,r8];try rfl) rfl ?_;exact⟨rfl,Leaves.jd O.jm hf.2 (cA EG.h)⟩
  ·subst hE
   replace D:=ao ((if_neg bT).symm.trans D);go_wp2_with fail;have ax:=HR.h wE;rw[EZ.h] at ax;refine ax.mono ?_;clear ax q0 q1 q2 q3 q4 q5 q6 q7 q8 HR;rintro e wR⟨rfl,bR⟩;have CR:=CC.h.below bR;have I:=O.h.zero.below bR;have BR:=dW O.jm bR;have b9:=O.h.lt.1;clear bR CC O
   by_cases hR:Rz=0
   rotate_left
   ·have i1:((Rz:Int) !=0)=true:=iW
    obtain⟨rfl,rfl⟩:Z=bN.zero/\Y=Rz:=by
     have:=D.h;rw[if_pos hR] at this;injection this with h1 h2;exact⟨h1.symm,h2.symm⟩
    obtain⟨z0,z1,z2,z3,z4,z5,z6,z7,z8⟩:=I.cL;have y0:=I.frozen 0;have y1:=I.frozen 1;have y2:=I.frozen 2;have y3:=I.frozen 3;have y4:=I.frozen 4;have y5:=I.frozen 5;have y6:=I.frozen 6;have y7:=I.frozen 7;have y8:=I.frozen 8;have I:=ao I;clear D hR CR EZ;go_wp2_with fail;have hf:=iA I bN.zero;obtain⟨wz,J⟩:=Zn (lA wR g2 bN.zero);rw[<-J] at hf
    (try simp only[Exit.inBlock,Exit.then])
    refine post_at J ?_;obtain⟨r0,r1,r2,r3,r4,r5,r6,r7,r8⟩:=hf.1.cL;refine bodyPost_ret (v:= .tuple #[bN.val bN.zero,Iz (Y:Nat)]) (by simp[results,Tryz.results83,go_sem,r0,r1,r2,r3,r4,r5,r6,r7,r8];try rfl) rfl ?_;exact⟨rfl,Leaves.jd BR hf.2 (cA EG.h)⟩
   ·subst hR
    obtain⟨rfl,rfl⟩:Z=z/\Y=0:=by
     have:=D.h;rw[if_neg bT] at this;injection this with h1 h2;exact⟨h1.symm,h2.symm⟩
    obtain⟨q0,q1,q2,q3,q4,q5,q6,q7,q8⟩:=CR.cL;obtain⟨z0,z1,z2,z3,z4,z5,z6,z7,z8⟩:=I.cL;have y0:=I.frozen 0;have y1:=I.frozen 1;have y2:=I.frozen 2;have y3:=I.frozen 3;have y4:=I.frozen 4;have y5:=I.frozen 5;have y6:=I.frozen 6;have y7:=I.frozen 7;have y8:=I.frozen 8;have I:=ao I;clear D CR EZ;go_wp2_with fail;have hf:=iA I Z;obtain⟨wz,J⟩:=Zn (lA wR g2 Z);rw[<-J] at hf
    (try simp only[Exit.inBlock,Exit.then])
    refine post_at J ?_;obtain⟨r0,r1,r2,r3,r4,r5,r6,r7,r8⟩:=hf.1.cL;refine bodyPost_ret (v:= .tuple #[bN.val Z,Iz (0:Nat)]) (by simp[results,Tryz.results83,go_sem,r0,r1,r2,r3,r4,r5,r6,r7,r8];try rfl) rfl ?_;exact⟨rfl,Leaves.jd BR hf.2 (cA EG.h)⟩
 have d3:((kb:Int)==3)=false:=by simpa using h3
 by_cases h4:(kb:Int)=4
 ·have d4:((kb:Int)==4)=true:=by simpa using h4
  have HK:=ao h4;clear h4;go_wp2_with fail;refine(pS d s2 _ D5.r).mono ?_;rintro e w6⟨rfl,r,L⟩;obtain⟨v2,ev⟩:=Zn s2.ix;obtain⟨s3,es⟩:=Zn (s2.left 8);rw[<-es] at r;rw[<-ev];obtain⟨ba,bb⟩:=dF ev es;clear ev es;have D6:=ao (D5.read r L);clear r L D5;go_wp2_with fail;refine(pS d s3 _ D6.r).mono ?_;rintro e w7⟨rfl,r,L⟩;obtain⟨v3,ev⟩:=Zn s3.ix;obtain⟨s4,es⟩:=Zn (s3.left 8);rw[<-es] at r;rw[<-ev];obtain⟨b0,b2⟩:=dF ev es;clear ev es;have D7:=ao (D6.read r L);clear r L D6;have y4:=D7.h.cmd.frozen 4;have x4:=D7.h.cmd.cL.2.2.2.2.1;have y5:=D7.h.cmd.frozen 5;have x5:=D7.h.cmd.cL.2.2.2.2.2.1
  go_upto_region 15 with(fail)
  have D8:=((D7.store jQ 4 (Iz v2) ⟨(kb:Int),id,0,0,v2,0,0,0,[]⟩ rfl).store jQ 5 (Iz v3) ⟨(kb:Int),id,0,0,v2,v3,0,0,[]⟩ rfl);obtain⟨w8,ew⟩:=Zn ((w7.setCell ⟨g5,4,none⟩ (Iz v2)).setCell ⟨g5,5,none⟩ (Iz v3));rw[<-ew] at D8⊢;have D8:=ao D8;clear ew D7 y4 x4 y5 x5;have hF:fL kb id s2=(⟨(kb:Int),id,0,0,v2,v3,0,0,[]⟩,s4):=by
   simp[fL,HK.h,ba.h,bb.h,b0.h,b2.h,bN.zero]
  replace D:=D.h;rw[hF] at D;simp only at D;clear hF;obtain⟨z,ez⟩:=Zn (⟨(kb:Int),id,0,0,v2,v3,0,0,[]⟩:bN);have a2:z.ky.length<=9223372036854775807:=by rw[ez];simp
  have HR:=ao (fun w=>nQ z a2 w);rw[<-ez] at D;obtain⟨Rz,eR⟩:=Zn (dx z);obtain⟨E,eE⟩:=Zn s4.vV;rw[<-eE,<-eR] at D;replace D:=ao D;replace HR:=HR.h;rw[<-eR] at HR;obtain⟨HR,EZ⟩:=dF HR ez;go_wp2_with fail;refine(zZ d s4 _ D8.r).mono ?_;rw[<-eE];clear eE eR;rintro e wE⟨rfl,bE⟩;have O:=D8.h.below (cr.below D8.r bE) bE;clear bE D8;obtain⟨q0,q1,q2,q3,q4,q5,q6,q7,q8⟩:=O.cmd.cL;have CC:=O.cmd;rw[<-ez] at CC;clear ez;simp only at q0 q1 q2 q3 q4 q5 q6 q7 q8;obtain⟨O,CC⟩:=dF O CC
  by_cases hE:E=0
  rotate_left
  ·have i1:(E !=0)=true:=by simpa using hE
   obtain⟨rfl,rfl⟩:Z=bN.zero/\Y=12:=by
    have:=D.h;rw[if_pos hE] at this;injection this with h1 h2;exact⟨h1.symm,h2.symm⟩
   obtain⟨z0,z1,z2,z3,z4,z5,z6,z7,z8⟩:=O.h.zero.cL;have y0:=O.h.zero.frozen 0;have y1:=O.h.zero.frozen 1;have y2:=O.h.zero.frozen 2;have y3:=O.h.zero.frozen 3;have y4:=O.h.zero.frozen 4;have y5:=O.h.zero.frozen 5;have y6:=O.h.zero.frozen 6;have y7:=O.h.zero.frozen 7;have y8:=O.h.zero.frozen 8;clear hE D HR;go_wp2_with fail;have hf:=iA O.zero bN.zero;obtain⟨wz,J⟩:=Zn (lA wE g2 bN.zero);rw[<-J] at hf
   (try simp only[Exit.inBlock,Exit.then])
   refine post_at J ?_;obtain⟨r0,r1,r2,r3,r4,r5,r6,r7,r8⟩:=hf.1.cL;refine bodyPost_ret (v:= .tuple #[bN.val bN.zero,Iz (12:Nat)]) (by simp[results,Tryz.results83,go_sem,r0,r1,r2,r3,r4,r5,r6,r7,r8];try rfl) rfl ?_;exact⟨rfl,Leaves.jd O.jm hf.2 (cA EG.h)⟩
  ·subst hE
   replace D:=ao ((if_neg bT).symm.trans D);go_wp2_with fail;have ax:=HR.h wE;rw[EZ.h] at ax;refine ax.mono ?_;clear ax q0 q1 q2 q3 q4 q5 q6 q7 q8 HR;rintro e wR⟨rfl,bR⟩;have CR:=CC.h.below bR;have I:=O.h.zero.below bR;have BR:=dW O.jm bR;have b9:=O.h.lt.1;clear bR CC O
   by_cases hR:Rz=0
   rotate_left
   ·have i1:((Rz:Int) !=0)=true:=iW
    obtain⟨rfl,rfl⟩:Z=bN.zero/\Y=Rz:=by
     have:=D.h;rw[if_pos hR] at this;injection this with h1 h2;exact⟨h1.symm,h2.symm⟩
    obtain⟨z0,z1,z2,z3,z4,z5,z6,z7,z8⟩:=I.cL;have y0:=I.frozen 0;have y1:=I.frozen 1;have y2:=I.frozen 2;have y3:=I.frozen 3;have y4:=I.frozen 4;have y5:=I.frozen 5;have y6:=I.frozen 6;have y7:=I.frozen 7;have y8:=I.frozen 8;have I:=ao I;clear D hR CR EZ;go_wp2_with fail;have hf:=iA I bN.zero;obtain⟨wz,J⟩:=Zn (lA wR g2 bN.zero);rw[<-J] at hf
    (try simp only[Exit.inBlock,Exit.then])
    refine post_at J ?_;obtain⟨r0,r1,r2,r3,r4,r5,r6,r7,r8⟩:=hf.1.cL;refine bodyPost_ret (v:= .tuple #[bN.val bN.zero,Iz (Y:Nat)]) (by simp[results,Tryz.results83,go_sem,r0,r1,r2,r3,r4,r5,r6,r7,r8];try rfl) rfl ?_;exact⟨rfl,Leaves.jd BR hf.2 (cA EG.h)⟩
   ·subst hR
    obtain⟨rfl,rfl⟩:Z=z/\Y=0:=by
     have:=D.h;rw[if_neg bT] at this;injection this with h1 h2;exact⟨h1.symm,h2.symm⟩
    obtain⟨q0,q1,q2,q3,q4,q5,q6,q7,q8⟩:=CR.cL;obtain⟨z0,z1,z2,z3,z4,z5,z6,z7,z8⟩:=I.cL;have y0:=I.frozen 0;have y1:=I.frozen 1;have y2:=I.frozen 2;have y3:=I.frozen 3;have y4:=I.frozen 4;have y5:=I.frozen 5;have y6:=I.frozen 6;have y7:=I.frozen 7;have y8:=I.frozen 8;have I:=ao I;clear D CR EZ;go_wp2_with fail;have hf:=iA I Z;obtain⟨wz,J⟩:=Zn (lA wR g2 Z);rw[<-J] at hf
    (try simp only[Exit.inBlock,Exit.then])
    refine post_at J ?_;obtain⟨r0,r1,r2,r3,r4,r5,r6,r7,r8⟩:=hf.1.cL;refine bodyPost_ret (v:= .tuple #[bN.val Z,Iz (0:Nat)]) (by simp[results,Tryz.results83,go_sem,r0,r1,r2,r3,r4,r5,r6,r7,r8];try rfl) rfl ?_;exact⟨rfl,Leaves.jd BR hf.2 (cA EG.h)⟩
 have d4:((kb:Int)==4)=false:=by simpa using h4
 obtain⟨dp,dS,dT⟩:=fY h1 h3 h4;clear h1 h3 h4
 go_upto_region 15 with(fail)
 have hF:fL kb id s2=(⟨(kb:Int),id,0,0,0,0,0,0,[]⟩,s2):=by
  simp[fL,dp.h,dS.h,dT.h,bN.zero]
 replace D:=D.h;rw[hF] at D;simp only at D;clear hF;obtain⟨z,ez⟩:=Zn (⟨(kb:Int),id,0,0,0,0,0,0,[]⟩:bN);have a2:z.ky.length<=9223372036854775807:=by rw[ez];simp
 have HR:=ao (fun w=>nQ z a2 w);rw[<-ez] at D;obtain⟨Rz,eR⟩:=Zn (dx z);obtain⟨E,eE⟩:=Zn s2.vV;rw[<-eE,<-eR] at D;replace D:=ao D;replace HR:=HR.h;rw[<-eR] at HR;obtain⟨HR,EZ⟩:=dF HR ez;go_wp2_with fail;refine(zZ d s2 _ D5.r).mono ?_;rw[<-eE];clear eE eR;rintro e wE⟨rfl,bE⟩;have O:=D5.h.below (cr.below D5.r bE) bE;clear bE D5;obtain⟨q0,q1,q2,q3,q4,q5,q6,q7,q8⟩:=O.cmd.cL;have CC:=O.cmd;rw[<-ez] at CC;clear ez;simp only at q0 q1 q2 q3 q4 q5 q6 q7 q8;obtain⟨O,CC⟩:=dF O CC
 by_cases hE:E=0
 rotate_left
 ·have i1:(E !=0)=true:=by simpa using hE
  obtain⟨rfl,rfl⟩:Z=bN.zero/\Y=12:=by
   have:=D.h;rw[if_pos hE] at this;injection this with h1 h2;exact⟨h1.symm,h2.symm⟩
  obtain⟨z0,z1,z2,z3,z4,z5,z6,z7,z8⟩:=O.h.zero.cL;have y0:=O.h.zero.frozen 0;have y1:=O.h.zero.frozen 1;have y2:=O.h.zero.frozen 2;have y3:=O.h.zero.frozen 3;have y4:=O.h.zero.frozen 4;have y5:=O.h.zero.frozen 5;have y6:=O.h.zero.frozen 6;have y7:=O.h.zero.frozen 7;have y8:=O.h.zero.frozen 8;clear hE D HR;go_wp2_with fail;have hf:=iA O.zero bN.zero;obtain⟨wz,J⟩:=Zn (lA wE g2 bN.zero);rw[<-J] at hf
  (try simp only[Exit.inBlock,Exit.then])
  refine post_at J ?_;obtain⟨r0,r1,r2,r3,r4,r5,r6,r7,r8⟩:=hf.1.cL;refine bodyPost_ret (v:= .tuple #[bN.val bN.zero,Iz (12:Nat)]) (by simp[results,Tryz.results83,go_sem,r0,r1,r2,r3,r4,r5,r6,r7,r8];try rfl) rfl ?_;exact⟨rfl,Leaves.jd O.jm hf.2 (cA EG.h)⟩
 ·subst hE
  replace D:=ao ((if_neg bT).symm.trans D);go_wp2_with fail;have ax:=HR.h wE;rw[EZ.h] at ax;refine ax.mono ?_;clear ax q0 q1 q2 q3 q4 q5 q6 q7 q8 HR;rintro e wR⟨rfl,bR⟩;have CR:=CC.h.below bR;have I:=O.h.zero.below bR;have BR:=dW O.jm bR;have b9:=O.h.lt.1;clear bR CC O
  by_cases hR:Rz=0
  rotate_left
  ·have i1:((Rz:Int) !=0)=true:=iW
   obtain⟨rfl,rfl⟩:Z=bN.zero/\Y=Rz:=by
    have:=D.h;rw[if_pos hR] at this;injection this with h1 h2;exact⟨h1.symm,h2.symm⟩
   obtain⟨z0,z1,z2,z3,z4,z5,z6,z7,z8⟩:=I.cL;have y0:=I.frozen 0;have y1:=I.frozen 1;have y2:=I.frozen 2;have y3:=I.frozen 3;have y4:=I.frozen 4;have y5:=I.frozen 5;have y6:=I.frozen 6;have y7:=I.frozen 7;have y8:=I.frozen 8;have I:=ao I;clear D hR CR EZ;go_wp2_with fail;have hf:=iA I bN.zero;obtain⟨wz,J⟩:=Zn (lA wR g2 bN.zero);rw[<-J] at hf
   (try simp only[Exit.inBlock,Exit.then])
   refine post_at J ?_;obtain⟨r0,r1,r2,r3,r4,r5,r6,r7,r8⟩:=hf.1.cL;refine bodyPost_ret (v:= .tuple #[bN.val bN.zero,Iz (Y:Nat)]) (by simp[results,Tryz.results83,go_sem,r0,r1,r2,r3,r4,r5,r6,r7,r8];try rfl) rfl ?_;exact⟨rfl,Leaves.jd BR hf.2 (cA EG.h)⟩
  ·subst hR
   obtain⟨rfl,rfl⟩:Z=z/\Y=0:=by
    have:=D.h;rw[if_neg bT] at this;injection this with h1 h2;exact⟨h1.symm,h2.symm⟩
   obtain⟨q0,q1,q2,q3,q4,q5,q6,q7,q8⟩:=CR.cL;obtain⟨z0,z1,z2,z3,z4,z5,z6,z7,z8⟩:=I.cL;have y0:=I.frozen 0;have y1:=I.frozen 1;have y2:=I.frozen 2;have y3:=I.frozen 3;have y4:=I.frozen 4;have y5:=I.frozen 5;have y6:=I.frozen 6;have y7:=I.frozen 7;have y8:=I.frozen 8;have I:=ao I;clear D CR EZ;go_wp2_with fail;have hf:=iA I Z;obtain⟨wz,J⟩:=Zn (lA wR g2 Z);rw[<-J] at hf
   (try simp only[Exit.inBlock,Exit.then])
   refine post_at J ?_;obtain⟨r0,r1,r2,r3,r4,r5,r6,r7,r8⟩:=hf.1.cL;refine bodyPost_ret (v:= .tuple #[bN.val Z,Iz (0:Nat)]) (by simp[results,Tryz.results83,go_sem,r0,r1,r2,r3,r4,r5,r6,r7,r8];try rfl) rfl ?_;exact⟨rfl,Leaves.jd BR hf.2 (cA EG.h)⟩
theorem nn.none (w:World) (w':World) (z:Int) (h:Bz w w'):nn w [] z (.returned (.tuple #[.slice none 0 0,Iz z])) w':=
 ⟨Option.none,0,rfl,aM _ _ _ _,Cells.nil _ _,af _,aB _,h⟩
theorem nn.of {I D:World} {n c:Nat} (hn:l.length=n) (J:Bz w I) (h:D.ownsRow I.heap.size 5 1 (.slice A n c) n (ij l)) (hA:Cells D A (ij l)) (O:n<=c) (h2:c<=maxLen) (hb:Bz I D):
  nn w l ((0:Nat):Int) (.returned (.tuple #[.slice A n c,Iz 0])) D:=by
 subst hn;exact⟨A,c,rfl,ch h J.size,hA,O,h2,dW J hb⟩
theorem MN (c:bN) (hl:c.ky.length<=9223372036854775807) (w:World):Wz 53 #[c.val] w (nn w (oL c) (dx c:Nat)):=by
 obtain⟨O,eO⟩:=Zn (dx c);have a6:oL c=if O=0 then zE c else []:=by rw[eO];rfl
 rw[<-eO];obtain⟨L,eL⟩:=Zn (oL c);rw[<-eL];have J:=ao (eL.trans a6);clear a6 eL;have hR:=fun w=>nQ c hl w;rw[<-eO] at hR;obtain⟨k,i,n,s,p,q,l,t,lb⟩:=c;simp only at hl;obtain⟨w0,ax⟩:=Zn (w.alloc (.cells (bN.cells ⟨k,i,n,s,p,q,l,t,lb⟩) 35));obtain⟨g,eg⟩:=Zn w.heap.size;have hC:kM w0 g ⟨k,i,n,s,p,q,l,t,lb⟩:=ax▸eg▸kM.new _ _;have B0:Bz w w0:=ax▸au (aa _ _) _;clear eO
 change ∀w,Wz _ #[.agg #[Iz k,Iz i,Iz n,Iz s,Iz p,Iz q,Iz l,Iz t, .string (str lb)]] w _ at hR
 have HR:=ao hR;clear hR;show Wz 53 #[.agg #[Iz k,Iz i,Iz n,Iz s,Iz p,Iz q,Iz l,Iz t, .string (str lb)]] w _
 change w0=w.alloc (.cells #[Iz k,Iz i,Iz n,Iz s,Iz p,Iz q,Iz l,Iz t, .string (str lb)] 35) at ax
 go_enter Tryz.func53,Tryz.ntmps53
 go_upto_region 1 with(fail)
 rw[<-ax,<-eg];clear ax eg;obtain⟨f0,f1,f2,f3,f4,f5,f6,f7,f8⟩:=hC.reads;have hg:=hC.lt;go_wp2_with fail;refine(HR _).mono ?_;rintro e w1⟨rfl,b1⟩;have ay:=hC.below b1;have BB:=dW B0 b1;have I:g<w1.heap.size:=ay.lt;have HC:=ao ay;clear f0 f1 f2 f3 f4 f5 f6 f7 f8 hC B0 b1 hg ay
 by_cases hO:O=0
 rotate_left
 ·have d0:((O:Int) !=0)=true:=iW
  replace J:=ao (J.trans (if_neg hO));clear hO;go_wp2_with fail
  go_ret2
  rw[J.h];exact nn.none _ _ _ BB
 ·subst hO
  replace J:=ao (J.trans (if_pos rfl));go_wp2_with fail;refine(Us _).mono ?_;rintro e w2⟨d,rfl,W2,b2⟩;have D:Below (g+1) w1 w2:=b2.mono I;have B2:=dW BB b2;have hB:=W2.bd;clear b2;have x0:=Yb D (cP g) (HC.cell 0)
  change w2.cell? ⟨g,0,none⟩=some (Iz k) at x0
  go_wp2_with fail;refine(xU _ d _ k _ W2 (by simp[length_le])).mono ?_;rintro e w3⟨rfl,W3,b3⟩;replace D:=D.trans (b3.mono I);have B3:=B2.trans (b3.mono BB.size);clear x0 W2 b3 B2;have x1:=Yb D (cP g) (HC.cell 1)
  change w3.cell? ⟨g,1,none⟩=some (Iz i) at x1
  go_wp2_with fail;refine(pR _ d _ i _ W3 (by simp[length_le])).mono ?_;rintro e w4⟨rfl,W4,b4⟩;replace D:=D.trans (b4.mono I);have B4:=B3.trans (b4.mono BB.size);clear x1 W3 b4 B3;have z0:=Yb D (cP g) (HC.cell 0)
  change w4.cell? ⟨g,0,none⟩=some (Iz k) at z0
  by_cases h1:k=1
  ·have d1:(k==1)=true:=by simpa using h1
   have he:zE ⟨k,i,n,s,p,q,l,t,lb⟩=[]++le 1 (gJ k)++le 8 (gJ i)++le 1 (gJ n)++le 1 (gJ s)++le 1 (gJ t)++le 8 (gJ p)++le 8 (gJ q)++le 8 (gJ l)++rz lb:=by
    simp[zE,vW,h1]
   replace J:=ao (J.trans he);clear he h1;have x2:=Yb D (cP g) (HC.cell 2)
   change w4.cell? ⟨g,2,none⟩=some (Iz n) at x2
   go_wp2_with fail;refine(xU _ d _ n _ W4 (by simp[length_le])).mono ?_;rintro e w5⟨rfl,W5,b5⟩;replace D:=D.trans (b5.mono I);have B5:=B4.trans (b5.mono BB.size);clear x2 W4 b5 B4;clear z0;have x3:=Yb D (cP g) (HC.cell 3)
   change w5.cell? ⟨g,3,none⟩=some (Iz s) at x3
   go_wp2_with fail;refine(xU _ d _ s _ W5 (by simp[length_le])).mono ?_;rintro e w6⟨rfl,W6,b6⟩;replace D:=D.trans (b6.mono I);have B6:=B5.trans (b6.mono BB.size);clear x3 W5 b6 B5;have x7:=Yb D (cP g) (HC.cell 7)
   change w6.cell? ⟨g,7,none⟩=some (Iz t) at x7
   go_wp2_with fail;refine(xU _ d _ t _ W6 (by simp[length_le])).mono ?_;rintro e w7⟨rfl,W7,b7⟩;replace D:=D.trans (b7.mono I);have B7:=B6.trans (b7.mono BB.size);clear x7 W6 b7 B6;have x4:=Yb D (cP g) (HC.cell 4)
   change w7.cell? ⟨g,4,none⟩=some (Iz p) at x4
   go_wp2_with fail;refine(pR _ d _ p _ W7 (by simp[length_le])).mono ?_;rintro e w8⟨rfl,W8,b8⟩;replace D:=D.trans (b8.mono I);have B8:=B7.trans (b8.mono BB.size);clear x4 W7 b8 B7;have x5:=Yb D (cP g) (HC.cell 5)
   change w8.cell? ⟨g,5,none⟩=some (Iz q) at x5
   go_wp2_with fail;refine(pR _ d _ q _ W8 (by simp[length_le])).mono ?_;rintro e w9⟨rfl,W9,b9⟩;replace D:=D.trans (b9.mono I);have B9:=B8.trans (b9.mono BB.size);clear x5 W8 b9 B8;have x6:=Yb D (cP g) (HC.cell 6)
   change w9.cell? ⟨g,6,none⟩=some (Iz l) at x6
   go_wp2_with fail;refine(pR _ d _ l _ W9 (by simp[length_le])).mono ?_;rintro e bc⟨rfl,a7,a0⟩;replace D:=D.trans (a0.mono I);have a8:=B9.trans (a0.mono BB.size);clear x6 W9 a0 B9;have x8:=Yb D (cP g) (HC.cell 8)
   change bc.cell? ⟨g,8,none⟩=some (.string (str lb)) at x8
   go_wp2_with fail;refine(RY _ d _ lb _ a7 (by simp[length_le]) ae).mono ?_;rintro e bh⟨rfl,ba,a2⟩;replace D:=D.trans (a2.mono I);have bf:=a8.trans (a2.mono BB.size);clear x8 a7 a2 a8;have a5:L.length<=1000:=by rw[J.h];simp[length_le,oZ];try omega
   rw[<-J.h] at ba;obtain⟨N,eN⟩:∃N,L.length=N:=⟨_,rfl⟩;have HN:=ao eN;clear eN;go_wp2_with fail;refine(xV _ d L _ ba ae).mono ?_;intro e wz hz;obtain⟨A,c,rfl,own,hA,h1,h2,b⟩:=hz.n HN;go_wp2_with fail
   go_ret2
   exact nn.of HN bf own hA h1 h2 b
  have d1:(k==1)=false:=by simpa using h1
  by_cases h3:k=3
  ·have d3:(k==3)=true:=by simpa using h3
   have he:zE ⟨k,i,n,s,p,q,l,t,lb⟩=[]++le 1 (gJ k)++le 8 (gJ i)++le 8 (gJ q):=by
    simp[zE,vW,h3]
   replace J:=ao (J.trans he);clear he h3;have x5:=Yb D (cP g) (HC.cell 5)
   change w4.cell? ⟨g,5,none⟩=some (Iz q) at x5
   go_wp2_with fail;refine(pR _ d _ q _ W4 (by simp[length_le])).mono ?_;rintro e w5⟨rfl,W5,b5⟩;replace D:=D.trans (b5.mono I);have B5:=B4.trans (b5.mono BB.size);clear x5 W4 b5 B4;clear z0;have a5:L.length<=1000:=by rw[J.h];simp[length_le,oZ];try omega
   rw[<-J.h] at W5;obtain⟨N,eN⟩:∃N,L.length=N:=⟨_,rfl⟩;have HN:=ao eN;clear eN;go_wp2_with fail;refine(xV _ d L _ W5 ae).mono ?_;intro e wz hz;obtain⟨A,c,rfl,own,hA,h1,h2,b⟩:=hz.n HN;go_wp2_with fail
   go_ret2
   exact nn.of HN B5 own hA h1 h2 b
  have d3:(k==3)=false:=by simpa using h3
  by_cases h4:k=4
  ·have d4:(k==4)=true:=by simpa using h4
   have he:zE ⟨k,i,n,s,p,q,l,t,lb⟩=[]++le 1 (gJ k)++le 8 (gJ i)++le 8 (gJ p)++le 8 (gJ q):=by
    simp[zE,vW,h4]
   replace J:=ao (J.trans he);clear he h4;have x4:=Yb D (cP g) (HC.cell 4)
   change w4.cell? ⟨g,4,none⟩=some (Iz p) at x4
   go_wp2_with fail;refine(pR _ d _ p _ W4 (by simp[length_le])).mono ?_;rintro e w5⟨rfl,W5,b5⟩;replace D:=D.trans (b5.mono I);have B5:=B4.trans (b5.mono BB.size);clear x4 W4 b5 B4;clear z0;have x5:=Yb D (cP g) (HC.cell 5)
   change w5.cell? ⟨g,5,none⟩=some (Iz q) at x5
   go_wp2_with fail;refine(pR _ d _ q _ W5 (by simp[length_le])).mono ?_;rintro e w6⟨rfl,W6,b6⟩;replace D:=D.trans (b6.mono I);have B6:=B5.trans (b6.mono BB.size);clear x5 W5 b6 B5;have a5:L.length<=1000:=by rw[J.h];simp[length_le,oZ];try omega
   rw[<-J.h] at W6;obtain⟨N,eN⟩:∃N,L.length=N:=⟨_,rfl⟩;have HN:=ao eN;clear eN;go_wp2_with fail;refine(xV _ d L _ W6 ae).mono ?_;intro e wz hz;obtain⟨A,c,rfl,own,hA,h1,h2,b⟩:=hz.n HN;go_wp2_with fail
   go_ret2
   exact nn.of HN B6 own hA h1 h2 b
  have d4:(k==4)=false:=by simpa using h4
  have he:zE ⟨k,i,n,s,p,q,l,t,lb⟩=[]++le 1 (gJ k)++le 8 (gJ i):=by
   simp[zE,vW,h1,h3,h4]
  replace J:=ao (J.trans he);clear he h1 h3 h4;have a5:L.length<=1000:=by rw[J.h];simp[length_le,oZ];try omega
  rw[<-J.h] at W4;obtain⟨N,eN⟩:∃N,L.length=N:=⟨_,rfl⟩;have HN:=ao eN;clear eN;go_wp2_with fail;refine(xV _ d L _ W4 ae).mono ?_;intro e wz hz;obtain⟨A,c,rfl,own,hA,h1,h2,b⟩:=hz.n HN;go_wp2_with fail
  go_ret2
  exact nn.of HN B4 own hA h1 h2 b
end Go.Proofs.YtbaaheidifacaaaGreat
