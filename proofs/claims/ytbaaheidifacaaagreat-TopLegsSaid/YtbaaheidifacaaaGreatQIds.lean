import Derived.Test.YtbaaheidifacaaaGreatQMk7
import Derived.Maps.RangeWalk
set_option linter.defProp false
set_option linter.unusedVariables false
set_option linter.unusedSimpArgs false
set_option maxRecDepth 100000
set_option maxHeartbeats 12800000
namespace Go.Proofs.YtbaaheidifacaaaGreat
variable {A:Option Addr} {C:zt} {G:vJ} {Gs R:Nat→Prop} {P:PD} {S:Sm} {b g gg n ob:Nat} {f:Int→Option Value} {id x:Int} {l:List sN} {own own':Int→Option Int} {w w':World}
open Go.RowKit Go.Maps
structure Y4 (w wr:World) (b r n:Nat) (D:DataW Value) (f:Int→Option Value) (left:Lit→Bool) (cnt:Nat) (A:Option Addr) (c:Nat) (ids:List Int):Prop where
 rg:wr.ranges Tryz.prog 2 zj b r n D left cnt
 own:wr.ownsRow w.heap.size 2 1 (.slice A ids.length c) ids.length (bZ ids)
 nd:ids.Nodup
 ln:ids.length+cnt≤n
 mem:∀x,x∈ids↔dZ x∧(f x).isSome=true∧left (.int .i64 x)=false
 jm:Below w.heap.size w wr
theorem PZ {D:DataW Value} {d:DataW Value} (h:∀z,D.atKey (.int .i64 x) z=match f x with|some v=> .held v|none=>z) (I:∀J,D.atKey (.int .i64 x) J=d):(f x).isSome=true:=by
 cases hf:f x with
 |some v=>rfl
 |none=>
  rw[hf] at h;have O:=(h (.held (.int .i64 0))).symm.trans (I _);have h2:=(h (.held (.int .i64 1))).symm.trans (I _);have h3:=O.trans h2.symm;simp at h3
theorem SG (y x:Int):(Lit.int .i64 y).sameKey (.int .i64 x)=decide (y=x):=by
 unfold Lit.sameKey
 by_cases h:y=x<;>simp[h]
theorem UH (h:(Lit.int .i64 x).wf=true):dZ x:=V9 h
theorem SH (s:Nat) (P:PD) (S:Sm) (G R:Nat->Prop) (w:World) (h:dR w G R s P S):
  Calls Tryz.prog 89 #[.pointer (some ⟨s,0,none⟩)] w fun e w'=> ∃A c ids,e= .returned (.slice A ids.length c)/\w'.ownsRow w.heap.size 2 1 (.slice A ids.length c) ids.length (bZ ids)/\ids.Nodup/\(∀x,x∈ids↔fI S x)/\(∀x∈ids,dZ x)/\Below w.heap.size w w':=by
 obtain⟨C,hS, -, -, -⟩:=h;have bE:∀x,dZ x/\(C.f x).isSome=true↔fI S x:=fun x=>by
  constructor
  ·rintro⟨_,hx⟩
   obtain⟨v,hv⟩:=nU.1 hx;obtain⟨y,M,e,h1,h2,h3,_⟩:=hS.bw x v hv;exact⟨y,M,e,h1,h2,h3⟩
  ·rintro⟨y,M,e,h1,h2,rfl⟩
   have hk:=hS.fw y M e h1 h2;have hx:y<P.count:=by rw[<-hS.sn];exact(az.1 h1).1
   obtain⟨b,M',h3,h4,h5⟩:=hS.book hx;rw[h1] at h4;injection h4 with h4;subst h4;exact⟨(h5.ok.ok e h2).2.2,by rw[hk];rfl⟩
 have bH:cK S<=250:=hS.cnt;obtain⟨D,bQ,bR, -,hD, -⟩:=hS.mp;have d8:w.cell? ⟨s,12,none⟩=some (.map (some C.mb)):=hS.D.cell 12;have cQ:C.mb<w.heap.size:=hS.mp.lt;have cS:=ao bE;have HD:=ao hD;have cT:=ao cQ;have cX:=ao bH;have dc:=ao bR;clear hS bE hD bH bR
 go_enter Tryz.func89,Tryz.ntmps89
 go_wp2_with (first
  |(at_range;refine wpList_range_own _ rfl _ 107 rfl 2 3 qB Tryz.underlying107 _ C.mb (cK S) _ rfl bQ ?_;intro w0 a7 a0 dp)
  |go_in)
 go_frame
 have bU:∀x,x∈([]:List Int)↔dZ x/\(C.f x).isSome=true/\Maps.has D (.int .i64 x)=false:=fun x=>by
  constructor
  ·intro h;cases h
  ·rintro⟨h1,h2,h3⟩
   have:=(HD.h x h1).1;rw[h3,h2] at this
   cases this
 have a2:Below w.heap.size w w0:=⟨a0.os,a0.tape,a0.output,a0.size,fun k hk=>a0.block k hk (by simp)⟩;have I0:Y4 w w0 C.mb w.heap.size (cK S) D C.f (Maps.has D) (Maps.size D) none 0 []:=⟨a7,aM _ _ _ _,List.nodup_nil,by rw[dc.h];simp,bU,a2⟩;have dS:=ao I0;clear I0 a7 a0 dp bU a2
 go_loopw [3,4] (fun v v4 wr=> ∃(left:Lit->Bool) (cnt:Nat) (A:Option Addr) (c O:Nat) (ids:List Int),v= .slice A O c/\Hid (O=ids.length/\Y4 w wr C.mb w.heap.size (cK S) D C.f left cnt A c ids)) (fun _ _ wr=>wr.rangeLeft C.mb w.heap.size)
 case atStart=>exact⟨_,_,none,0,0,[],rfl,ao ⟨rfl,dS.h⟩⟩
 case round=>
  obtain⟨left,cnt,A,c,O,ids,rfl,HI⟩:=hrel;have a5:=HI.h.2.rg
  go_wp2_with (first
   |(at_next;refine wpList_next_ranges _ rfl _ rfl 2 qB zj (Value.int .i64) (fun v:Value=>v) (fun key kl ax=>by obtain⟨x,rfl,_⟩:=Maps.keyOf_int_inv Tryz.underlying2 ax;exact⟨x,rfl⟩) (fun v y hv=>⟨v,rfl⟩) C.mb w.heap.size (cK S) D left cnt rfl a5 ?_ ?_)
   |go_in)
  ·intro _ bV
   have I:=HI.h.2;have a8:∀x,x∈ids↔fI S x:=fun x=>by
    rw[I.mem,<-cS.h];constructor
    ·rintro⟨h1,h2,_⟩;exact⟨h1,h2⟩
    ·rintro⟨h1,h2⟩;exact⟨h1,h2,bV _⟩
   have b0:=ao a8;clear bV I a8 a5;go_wp2_with fail;go_ret;exact⟨A,c,ids,by rw[HI.h.1];rfl,HI.h.2.own,HI.h.2.nd,b0.h,fun x hx=>((HI.h.2.mem x).1 hx).1,HI.h.2.jm⟩
  ·intro x v kl y y2 w1 b7 ax bp hv b8 a6 b9 bt dT d9
   obtain⟨x',ex,rfl,cd⟩:=Maps.keyOf_int_inv Tryz.underlying2 ax
   cases ex
   have hx:dZ x:=UH cd;have cf:=PZ (HD.h x hx).2 b8;obtain⟨hO,I⟩:=HI.h;have ba:x∉ids:=fun hm=>by
    have:=((I.mem x).1 hm).2.2;rw[bp] at this
    cases this
   have J:∀{u:World} {l:Lit->Bool} {n:Nat},u.ranges Tryz.prog 2 zj C.mb w.heap.size (cK S) D l n->∀{A:Option Addr} {c m:Nat} {xs:List Value},u.ownsRow w.heap.size 2 1 (.slice A m c) m xs->(Value.slice A m c).ownBlock≠some w.heap.size:=fun {u l n} hr {A c m xs} ho e=>by
    obtain⟨cur,hc⟩:=bY ho e;obtain⟨es,clock,since,seen,c0,_,_,_,_,ck,_⟩:=hr;rw[hc] at ck
    cases ck
   have ay:w1.ownsRow w.heap.size 2 1 (.slice A O c) O (bZ ids):=by
    rw[hO];exact aX I.own fun g hg=>bt.block g (I.own.lt g hg).2 fun e=>J a5 I.own (by rw[hg,e])
   have b1:Below w.heap.size w w1:=I.jm.trans ((Lv.dy (F:=fun j=>j=w.heap.size) bt fun j hj=> .inl (by injection hj with hj;exact hj.symm)).below (fun j hj=>bu (show j=w.heap.size from hj).symm) I.jm.size);have bb:(Value.slice A O c).ownBlock≠some w.heap.size:=J a6 ay;have bc:(Value.slice A O c).ownBlock≠some C.mb:=fun e=>by have:=(ay.lt _ e).1;have:=cT.h;omega
   have ea:O<=250:=by have:=I.ln;have:=cX.h;omega
   have cl:w.heap.size<=w1.heap.size:=b1.size;have d2:=ao ay;have d3:=ao b1;have cm:=ao bb;have cn:=ao bc;have ct:=ao ba;have bf:=ao a6;have HX:=ao hx;have d4:=ao cf;have cv:=ao b9;have d5:=ao a5;have eb:=ao bp;clear ax bp hv b8 a6 b9 bt dT cd hx cf hO I ba J ay b1 bb bc a5
   go_wp2_with (at_builtin
                refine dO sL d2.h #[.int .i64 x] rfl _ _ rfl rfl rfl rfl (by intro u hu;simp at hu;subst hu;rfl) (by omega) cl ?_;intro A2 d6 w2 bh g2 b2 l2;have cF:=ao bh;have cH:=ao g2;have d7:=ao b2;clear bh g2 b2 l2)
   go_roundw
   case rel=>
    have I:=HI.h.2;have hO:=HI.h.1;refine⟨_,b7,A2,d6,O+1,ids++[x],rfl,ao ⟨by rw[aC,hO];rfl,bf.h.kept cH.h (fun e=>cn.h e.symm) (fun e=>cm.h e.symm),?_,?_,?_,fun y=>?_,d7.h _ _ (af _) d3.h⟩⟩
    ·have:=cF.h
     rw[show(ids++[x]).length=O+1 by rw[aC,hO];rfl];unfold bZ at this⊢;rw[cx];exact this
    ·rw[dw]
     refine⟨I.nd,by simp,fun a ha b hb e=>?_⟩;simp at hb;rw[e,hb] at ha;exact ct.h ha
    ·have:=I.ln;have:=cv.h;rw[aC];simp;omega
    ·rw[aJ,I.mem,SG]
     by_cases hy:y=x
     ·subst hy;simp[HX.h,d4.h]
     ·simp[hy]
   case measure=>rw[World.ranges.left_eq (bf.h.kept cH.h (fun e=>cn.h e.symm) (fun e=>cm.h e.symm)),d5.h.left_eq];exact cv.h
theorem SI (g:Nat) (P:PD) (m:Mk) (Gs R:Nat->Prop) (C:zt) (w:World) (h:jW w Gs R g P m C):
  Wz 54 #[Pz g] w fun e w'=> ∃A c ids,e= .returned (.slice A ids.length c)/\w'.ownsRow w.heap.size 2 1 (.slice A ids.length c) ids.length (bZ ids)/\ids.Nodup/\(∀x,x∈ids↔fI m.S x)/\(∀x∈ids,dZ x)/\Bz w w':=by
 have I:Cz w g 11 (Pz C.s):=h.b.D.cell 11;have H:=ao h;clear h
 go_enter Tryz.func54,Tryz.ntmps54
 go_wp2_with fail;refine(SH C.s P m.S Gs R w H.h.st).mono ?_;rintro e u⟨A,c,ids,rfl,J,O,h3,h4,h5⟩;go_wp2_with fail;go_ret;exact⟨A,c,ids,rfl,J,O,h3,h4,h5⟩
open Go.RowKit
theorem Tryz.SJ:(Tryz.prog.info? 65).map (fun i=>(i.zero,i.size,i.bytes))=some (some (.agg #[Iz 0,Iz 0,Iz 0,Iz 0,Iz 0,Iz 0,Iz 0,Iz 0,Iz 0]),9,72):=by kernel_rfl
theorem WK:kA Tryz.prog 60 65 (.agg #[Iz 0,Iz 0,Iz 0,Iz 0,Iz 0,Iz 0,Iz 0,Iz 0,Iz 0]) 9 72:=
 ⟨Tryz.underlying60,let ⟨i,h,D,I,J⟩:=info_parts Tryz.SJ;⟨i,h,D,I,J⟩,rfl,ae,ae⟩
def sN.cells (o:sN):List Value:= Iz o.Zi::o.r.cells
theorem sN.bG (o:sN):o.cells.length=9:=rfl
def qJ (l:List sN):List Value:=l.flatMap sN.cells
theorem GM (l:List sN):(qJ l).length=l.length*9:=dX sN.bG l
theorem P0 (l m:List sN):qJ (l++m)=qJ l++qJ m:=by simp[qJ]
def sO (B:Nat) (w:World) (A:Option Addr) (c:Nat) (l:List sN):Prop:=w.ownsRow B 65 9 (.slice A l.length c) l.length (qJ l)
def yc (own:Int→Option Int):Int→Option Value:=fun id=>(own id).map (Value.int .i64)
structure pX (w:World) (Gs R:Nat→Prop) (gg g ob:Nat) (P:PD) (G:vJ) (C:zt):Prop where
 D:aE w gg 109 #[Pz g, .map (some ob)]
 oO:jW w Gs R g P G.m C
 ow:fR w ob (yc G.own) G.on
 CQ:gg≠g∧gg≠C.ub∧¬Gs gg∧¬R gg∧gg≠ob
 yQ:ob≠g∧ob≠C.ub∧¬Gs ob∧¬R ob
theorem pX.lv {F:Nat->Prop} (h:pX w Gs R gg g ob P G C) (I:Lv F w w') (hF:∀k,k=gg\/k=ob\/k=g\/k=C.ub\/Gs k\/R k->¬F k):pX w' Gs R gg g ob P G C:=
 ⟨h.D.lv I (hF gg (.inl rfl)),h.oO.lv I (fun k J=>hF k (.inr (.inr J))),h.ow.lv I (hF ob (.inr (.inl rfl))),h.CQ,h.yQ⟩
theorem pX.below (h:pX w Gs R gg g ob P G C) (I:Bz w w'):pX w' Gs R gg g ob P G C:=
 ⟨h.D.below I,h.oO.below I,h.ow.below I,h.CQ,h.yQ⟩
theorem JM (s:Int) (A:Option Addr) (n c:Nat) (b:List UInt8) (w:World) (hn:b.length=n) (hl:n<=140737488355328) (hc:n<=c) (a0:c<=9223372036854775807) (hA:Cells w A (ij b)):
  Wz 51 #[Iz s, .slice A n c] w fun e w'=>e= .returned (.tuple #[(gw s b).1.val,Iz ((gw s b).2:Nat)])/\Bz w w':=by
 obtain⟨w0,J⟩:=Zn (w.alloc (.cells #[Iz 0,Iz 0,Iz 0,Iz 0,Iz 0,Iz 0,Iz 0,Iz 0, .string ⟨#[]⟩] 35));obtain⟨g,eg⟩:=Zn w.heap.size;have I:kM w0 g bN.zero:=by rw[J,eg];exact heap_alloc_new _ _
 have B0:=Zw J;have O:w.heap.size<=g:=bu eg.symm;obtain⟨ax,ay,HN,HA⟩:=mh I B0 hn (hA.below B0);obtain⟨z0,z1,z2,z3,z4,z5,z6,z7,z8⟩:=I.cL;have y0:=I.frozen 0;have y1:=I.frozen 1;have y2:=I.frozen 2;have y3:=I.frozen 3;have y4:=I.frozen 4;have y5:=I.frozen 5;have y6:=I.frozen 6;have y7:=I.frozen 7;have y8:=I.frozen 8;clear I B0 hA hn
 go_enter Tryz.func51,Tryz.ntmps51
 go_upto_region 1 with(fail)
 rw[<-J,<-eg];clear J eg
 by_cases hs:s<0\/8<=s
 ·obtain⟨r,er⟩:=Zn (decide (s<0))
  have hr:gw s b=(bN.zero,1):=by unfold gw;rw[if_pos hs]
  have HR:=ao hr;have a2:s<0\/(¬s<0/\8<=s):=by omega
  clear er hr hs;rcases a2 with hs|⟨hs,a7⟩
  ·go_wp2_with fail
   have hf:=iA ax.h bN.zero;obtain⟨wz,D⟩:=Zn (lA w0 g bN.zero);rw[<-D] at hf
   (try simp only[Exit.inBlock,Exit.then])
   refine post_at D ?_;obtain⟨r0,r1,r2,r3,r4,r5,r6,r7,r8⟩:=hf.1.cL;refine bodyPost_ret (v:= .tuple #[bN.val bN.zero,Iz (1:Nat)]) (by simp[results,Tryz.results51,go_sem,r0,r1,r2,r3,r4,r5,r6,r7,r8];try rfl) rfl ?_;rw[HR.h];exact⟨rfl,Leaves.jd ay.h hf.2 O⟩
  ·go_wp2_with fail
   have hf:=iA ax.h bN.zero;obtain⟨wz,D⟩:=Zn (lA w0 g bN.zero);rw[<-D] at hf
   (try simp only[Exit.inBlock,Exit.then])
   refine post_at D ?_;obtain⟨r0,r1,r2,r3,r4,r5,r6,r7,r8⟩:=hf.1.cL;refine bodyPost_ret (v:= .tuple #[bN.val bN.zero,Iz (1:Nat)]) (by simp[results,Tryz.results51,go_sem,r0,r1,r2,r3,r4,r5,r6,r7,r8];try rfl) rfl ?_;rw[HR.h];exact⟨rfl,Leaves.jd ay.h hf.2 O⟩
 ·have i1:¬s<0:=by omega
  have i2:¬8<=s:=by omega
  have hr:gw s b=zF b:=by unfold gw;rw[if_neg hs]
  have HR:=ao hr;obtain⟨Z,eZ⟩:=Zn ((zF b).1);obtain⟨Y,eY⟩:=Zn ((zF b).2);obtain⟨HZ,HY⟩:=dF eZ eY;clear hs hr z0 z1 z2 z3 z4 z5 z6 z7 z8 y0 y1 y2 y3 y4 y5 y6 y7 y8 eZ eY;go_wp2_with fail;refine(Ll A n c b w0 HN.h hl hc a0 HA.h).mono ?_;unfold R5;rw[<-HZ.h,<-HY.h];rintro e w1⟨rfl,b1⟩;simp only[bN.val,bN.cells];have C1:=ax.h.below b1;obtain⟨z0,z1,z2,z3,z4,z5,z6,z7,z8⟩:=C1.cL;have y0:=C1.frozen 0;have y1:=C1.frozen 1;have y2:=C1.frozen 2;have y3:=C1.frozen 3;have y4:=C1.frozen 4;have y5:=C1.frozen 5;have y6:=C1.frozen 6;have y7:=C1.frozen 7;have y8:=C1.frozen 8;obtain⟨a5,a6⟩:=dF C1 (dW ay.h b1);clear C1 b1;go_wp2_with fail;have hf:=iA a5.h Z;obtain⟨wz,D⟩:=Zn (lA w1 g Z);rw[<-D] at hf
  (try simp only[Exit.inBlock,Exit.then])
  refine post_at D ?_;obtain⟨r0,r1,r2,r3,r4,r5,r6,r7,r8⟩:=hf.1.cL;refine bodyPost_ret (v:= .tuple #[bN.val Z,Iz (Y:Nat)]) (by simp[results,Tryz.results51,go_sem,r0,r1,r2,r3,r4,r5,r6,r7,r8];try rfl) rfl ?_;rw[HR.h,<-HZ.h,<-HY.h];exact⟨rfl,Leaves.jd a6.h hf.2 O⟩
theorem Mh (gg:Value) (s:Int) (A:Option Addr) (n c:Nat) (b:List UInt8) (w:World) (hn:b.length=n) (O:n<=140737488355328) (hc:n<=c) (D:c<=9223372036854775807) (hA:Cells w A (ij b)):
  Wz 79 #[gg,Iz s, .slice A n c] w fun e w'=>e= .returned (Iz ((gw s b).2:Nat))/\Bz w w':=by
 obtain⟨Z,J⟩:=Zn ((gw s b).1);obtain⟨Y,I⟩:=Zn ((gw s b).2);obtain⟨HZ,HY,HN,HA⟩:=mh J I hn hA;rw[<-I];clear J I hn hA
 go_enter Tryz.func79,Tryz.ntmps79
 go_wp2_with fail;refine(JM s A n c b w HN.h O hc D HA.h).mono ?_;rw[<-HZ.h,<-HY.h];rintro e w1⟨rfl,b1⟩;simp only[bN.val,bN.cells];go_wp2_with fail;go_ret;exact⟨rfl,au b1 _⟩
theorem CS (s id fy:Int) (w:World):Wz 52 #[Iz s,Iz id,Iz fy] w fun e w'=> ∃A cp,e= .returned (.slice A 1 cp)/\sO w.heap.size w' A cp (Mg s id fy)/\Bz w w':=by
 go_enter Tryz.func52,Tryz.ntmps52
 go_wp2_with fail;go_ret;refine⟨some ⟨w.heap.size,0,none⟩,1,rfl,?_,au (aa _ _) _⟩;exact cI (base:=w.heap.size) (size:=9) w #[Iz s,Iz 2,Iz id,Iz 0,Iz 0,Iz 0,Iz 0,Iz 0,Iz fy] 1 (af _) (by unfold maxLen;omega) rfl
theorem UI (S:Sm) (x:Int):x∈Mf S↔fI S x:=by
 unfold Mf fI;rw[dD];constructor
 ·rintro⟨M,I,hx⟩
  obtain⟨e,he,rfl⟩:=aV.1 hx;obtain⟨y,D⟩:=aG I;exact⟨y,M,e,D,he,rfl⟩
 ·rintro⟨y,M,e,D,he,rfl⟩
  exact⟨M,aH D,aV.2 ⟨e,he,rfl⟩⟩
theorem Mi (S:Sm):(Mf S).length=cK S:=by
 unfold Mf cK;rw[List.length_flatMap]
 congr 1
 refine cJ fun M _=>?_;exact br ..
theorem dR.P2 {G:Nat->Prop} {s:Nat} (h:dR w G R s P S):(Mf S).Nodup:=by
 unfold Mf List.Nodup;rw[List.pairwise_flatMap];refine⟨fun M D=>?_,?_⟩
 ·obtain⟨x,hx⟩:=aG D
  exact(h.JH hx).nd
 ·rw[nz]
  intro i j hi I J a ha b O e;obtain⟨ea,h1,rfl⟩:=aV.1 ha;obtain⟨eb,h2,rfl⟩:=aV.1 O;have:=h.uniq (aj hi) h1 (aj I) h2 e;omega
theorem JN (h:fR w b (yc own) n) (D:dZ id):
  (Instr.lookup 107 (.map (some b)) (Iz id) false).run Tryz.prog w= .ok (Iz ((own id).getD 0)) w:=by
 have:=h.look Tryz.underlying107 (Tryz.Gz w) D;rw[this];unfold yc
 cases own id<;>rfl
theorem JO (h:fR w b (yc own) n) (D:dZ id):
  (Instr.lookup 107 (.map (some b)) (Iz id) true).run Tryz.prog w= .ok (.tuple #[Iz ((own id).getD 0), .bool (own id).isSome]) w:=by
 have:=h.look_ok Tryz.underlying107 (Tryz.Gz w) D;rw[this];unfold yc
 cases own id<;>rfl
theorem P4 (Gs R:Nat->Prop) (gg g ob:Nat) (P:PD) (G:vJ) (C:zt) (s:Int) (w:World) (h:pX w Gs R gg g ob P G C):
  Wz 30 #[Pz gg,Iz s] w fun e w'=>e= .returned (Iz (ya G s:Nat))/\Bz w w':=by
 have c0:=h.D.cell;have H:=ao h;clear h
 go_enter Tryz.func30,Tryz.ntmps30
 go_wp2_with fail;refine(SI g P G.m Gs R C w H.oO).mono ?_;rintro e w1⟨A,c,ids,rfl,h1,h2,h3,h4,b1⟩;have H1:=H.h.below b1;have I:=(List.perm_ext_iff_of_nodup h2 H.oO.st.P2).2 fun x=>(h3 x).trans (UI _ x).symm;have hlen:ids.length<=250:=by rw[I.length_eq,Mi];exact H.oO.st.cnt
 obtain⟨N,eN⟩:=Zn ids.length;rw[<-eN] at hlen⊢;have hA:=Cells.O h1;have ba:=H1.D.cell;obtain⟨HN,HP,HI,HB,HA,bb,a8⟩:=yY eN I h4 b1 hA H1 H1.ow;clear h1 h2 h3 h4 b1 hA H1 I eN c0;go_wp2_with fail
 go_loopw [5,14] (fun v5 a0 wr=> ∃m:Nat,m<=N/\a0= Iz (m:Int)/\v5= Iz (((ids.take m).filter fun id=>(G.own id).getD 0==s).length:Int)/\w1=wr) (fun _ a0 _=>N - (intOf a0).toNat)
 case atStart=>exact⟨0,aB _,rfl,by simp,rfl⟩
 case round=>
  obtain⟨m,hm,rfl,rfl,rfl⟩:=hrel
  by_cases a2:m<N
  ·obtain⟨b,o,x,eA,hb,hx,hk⟩:=HA.h.jK (k:=m) (by rw[<-HN.h];exact a2)
   have i1:(m:Int)<N:=by omega
   have a6:=HI.h x (aH hk.h);have lk:=JN a8 a6;obtain⟨K,eK⟩:=Zn (((ids.take m).filter fun id=>(G.own id).getD 0==s).length);have hK:K<=250:=by
    rw[eK];have h1:=qi (fun id=>(G.own id).getD 0==s) (ids.take m);have h2:(ids.take m).length<=m:=by rw[bJ];omega
    omega
   have ax:((ids.take (m+1)).filter fun id=>(G.own id).getD 0==s).length=if (G.own x).getD 0==s then K+1 else K:=by
    rw[bC,hk.h,Ea,aC,<-eK];simp only[tB,gN,List.filter_nil]
    split<;>simp
   rw[<-eK];obtain⟨a7,ay⟩:=dF ax a2;obtain⟨ow,a5⟩:=Zn ((G.own x).getD 0);rw[<-a5] at lk;have HE:=ao a5;clear eK ax a2 a5 a6 hm hk;rw[eA];clear eA
   by_cases J:ow=s
   ·have i2:(ow==s)=true:=by simp[J]
    have HO:=ao J;clear J;go_wp2_with fail;go_roundw
    case rel=>
     refine⟨m+1,by have:=ay.h;omega,by go_num,?_,trivial⟩;rw[a7.h,if_pos (by rw[<-HE.h,HO.h];simp)]
     go_num
    case measure=>have:=ay.h;simp[intOf];omega
   ·have i2:(ow==s)=false:=by simpa using J
    have HO:=ao J;clear J;go_wp2_with fail;go_roundw
    case rel=>
     refine⟨m+1,by have:=ay.h;omega,by go_num,?_,trivial⟩;rw[a7.h,if_neg (by rw[<-HE.h];simpa using HO.h)]
    case measure=>have:=ay.h;simp[intOf];omega
  ·obtain rfl:m=N:=by omega
   have i1:¬((m:Int)<m):=by omega
   go_wp2_with fail;go_ret;refine⟨?_,HB⟩;have:((ids.take m).filter fun id=>(G.own id).getD 0==s).length=ya G s:=by
    rw[HN.h,dE];exact(HP.filter _).length_eq
   rw[<-this];rfl
theorem SK (P:PD) (ma:Option Addr) (mc:Nat) (sa:Option Addr) (sc:Nat) (w:World) (h:iZ w P ma sa):
  Wz 27 #[P.val ma mc sa sc] w fun e w'=> ∃gg g ob C Gs R,e= .returned (.tuple #[Pz gg,Iz 0])/\pX w' Gs R gg g ob P (vJ.new P) C/\Bz w w'/\∀j,j=gg\/j=ob\/j=g\/j=C.ub\/Gs j\/R j->w.heap.size<=j:=by
 obtain⟨w0,J⟩:=Zn (w.alloc (.cells (P.cells ma mc sa sc) 25));obtain⟨g0,ax⟩:=Zn w.heap.size;have B0:=Zw J;have D0:=Zq J ax;obtain⟨c0,c1,c2,c3,c4,c5,c6,c7,c8,c9,wJ⟩:=fM.gX (w:=w0) (g:=g0) D0;have ay:=JK P ma mc sa sc w0 (h.below B0);rw[PD.jt] at ay⊢;obtain⟨ba,a0⟩:=dF ay B0;clear h D0 B0 ay
 go_enter Tryz.func27,Tryz.ntmps27
 go_upto_region 1 with(fail)
 rw[<-J,<-ax];clear J ax;go_wp2_with fail;refine ba.mono ?_;rintro e I⟨g,C,Gs,R,rfl,hM,b1,hg,bh,a2⟩;have bp:∀w:World,(Instr.makeMap 107 none).run Tryz.prog w= .ok (.map (some w.heap.size)) (w.alloc (.map #[] 0)):=fun _=>rfl;obtain⟨HM,a5,bb⟩:=fY hM b1 a2;clear hM b1 a2 c0 c1 c2 c3 c4 c5 c6 c7 c8 c9 wJ;go_wp2_with fail
 go_ret2
 obtain⟨w2,O⟩:=Zn ((I.alloc (.map #[] 0)).alloc (.cells #[Pz g, .map (some I.heap.size)] 109));have a6:Bz I w2:=O▸au (au (aa _ _) _) _;have G2:aE w2 (I.heap.size+1) 109 #[Pz g, .map (some I.heap.size)]:=by
  rw[O];have h:=heap_alloc_new (I.alloc (.map #[] 0)) (.cells #[Pz g, .map (some I.heap.size)] 109);rw[cw] at h;exact h
 have M2:fR w2 I.heap.size (yc fun _=>none) 0:=by
  rw[O];have:(yc fun _=>none)=fun _=>none:=by funext y;rfl
  rw[this];exact(fR.new I).below (au (aa _ _) _)
 have bc:=HM.h.below a6;have bt:=HM.h.b.D.lt;have bE:=HM.h.us.lt;have a7:=HM.h.gl;have a8:=HM.h.rl;have bf:=a0.h.size;have bH:=a5.h.size;have hG:pX w2 Gs R (I.heap.size+1) g I.heap.size P (vJ.new P) C:=
  ⟨G2,bc,M2,⟨ae,ae,fun e=>cA (a7 _ e),fun e=>cA (a8 _ e),ae⟩,⟨ae,ae,fun e=>cA (a7 _ e),fun e=>cA (a8 _ e)⟩⟩
 have BB:=(a0.trans (a5.mono bf)).trans (a6.mono ae);rw[O] at hG BB;refine⟨I.heap.size+1,g,I.heap.size,C,Gs,R,rfl,hG,BB,fun j hj=>?_⟩;rcases hj with hj|hj|hj|hj|hj
 ·omega
 ·omega
 ·omega
 ·omega
 ·have:=bb.h j hj;omega
def FJ (w:World) (Gs R:Nat→Prop) (gg g ob:Nat) (P:PD) (C:zt) (res:vJ×List sN) (e:Ending) (w':World):Prop:=
 ∃A cp Gs',e= .returned (.slice A res.2.length cp)∧sO w.heap.size w' A cp res.2∧pX w' Gs' R gg g ob P res.1 C∧Lv (fun j=>j=ob∨j=C.ub∨Gs j) w w'∧(∀j,Gs' j→Gs j∨qO w w' j)∧∀b,(Value.slice A res.2.length cp).ownBlock=some b→¬Gs' b
theorem pX.lt (h:pX w Gs R gg g ob P G C):∀j,j=gg\/j=ob\/j=g\/j=C.ub\/Gs j\/R j->j<w.heap.size:=fun j I=>by
 rcases I with rfl|rfl|rfl|rfl|I|I
 ·exact h.D.lt
 ·exact h.ow.lt
 ·exact h.oO.b.D.lt
 ·exact h.oO.us.lt
 ·exact h.oO.gl j I
 ·exact h.oO.rl j I
theorem FJ.same {I:World} (h:pX w Gs R gg g ob P G C) (J:Bz w I) {cp:Nat} (hn:n=l.length) (own:sO I.heap.size w' A cp l) (O:Bz I w'):FJ w Gs R gg g ob P C (G,l) (.returned (.slice A n cp)) w':=by
 subst hn;have D:=dW J O;refine⟨A,cp,Gs,rfl,ch own J.size,h.below D,Lv.bL D,fun j hj=> .inl hj,fun b ax hg=>?_⟩;have h1:=(own.lt b ax).1;have h2:=h.oO.gl b hg;have:=J.size;omega
theorem right_id {c:bN} (h:dx c=0):dZ c.id:=by
 by_cases D:c.kind=1
 ·have:=FC h D
  exact⟨cA this.i1,cA this.i2⟩
 ·have:=FD h D
  exact⟨cA this.i1,cA this.i2⟩
theorem SN {s:Int} {b:List UInt8} {Z:bN} (h:gw s b=(Z,0)):dx Z=0/\Z.wf:=by
 unfold gw at h
 split at h
 ·injection h with _ h;cases h
 ·have:=RV h
  exact⟨this.1,this.2.2.2⟩
structure Zj (w5 wr:World) (Gs R:Nat→Prop) (gg g ob:Nat) (P:PD) (m:Mk) (C:zt) (s:Int) (own:Int→Option Int) (on:Nat) (L:List ir) (A:Option Addr) (c:Nat):Prop where
 row:sO w5.heap.size wr A c (qI s own L)
 gt:pX wr Gs R gg g ob P ⟨m,(mQ s (own,on) L).1,(mQ s (own,on) L).2⟩ C
 lv:Lv (fun j=>j=ob) w5 wr
theorem pX.owner {m:Mk} {on I:Nat} (h:pX w Gs R gg g ob P ⟨m,own,on⟩ C) (hm:fR w' ob (yc own') I) (J:Lv (fun j=>j=ob) w w'):pX w' Gs R gg g ob P ⟨m,own',I⟩ C:=
 ⟨h.D.lv J h.CQ.2.2.2.2,h.oO.lv J (fun k O e=>by
  have e':k=ob:=e;subst e';rcases O with e|e|e|e
  ·exact h.yQ.1 e
  ·exact h.yQ.2.1 e
  ·exact h.yQ.2.2.1 e
  ·exact h.yQ.2.2.2 e),hm,h.CQ,h.yQ⟩
theorem SP (own:Int->Option Int) (id s:Int):(fun y=>if y=id then some (Value.int .i64 s) else yc own y)=yc (fun y=>if y=id then some s else own y):=by
 funext y
 unfold yc
 by_cases h:y=id<;>simp[h]
theorem SQ (own:Int->Option Int) (id:Int) (n:Nat):(if (yc own id).isSome=true then n else n+1)=if (own id).isSome then n else n+1:=by
 unfold yc
 cases own id<;>rfl
theorem UJ {l:List ir} (h:Cells w A (fC l)) {m:Nat} (hm:m<l.length):
  ∃b o r,A=some ⟨b,o,none⟩/\b<w.heap.size/\w.cell? ⟨b,o+m*8,none⟩=some (Iz r.kind)/\w.cell? ⟨b,o+m*8+1,none⟩=some (Iz r.id)/\w.cell? ⟨b,o+m*8+2,none⟩=some (Iz r.inst)/\w.cell? ⟨b,o+m*8+3,none⟩=some (Iz r.side)/\w.cell? ⟨b,o+m*8+4,none⟩=some (Iz r.ag)/\w.cell? ⟨b,o+m*8+5,none⟩=some (Iz r.aw)/\w.cell? ⟨b,o+m*8+6,none⟩=some (Iz r.left)/\w.cell? ⟨b,o+m*8+7,none⟩=some (Iz r.fy)/\Hid (l[m]?=some r):=by
 have I:=iL l;have D:fC l≠[]:=by intro e;rw[e] at I;simp at I;omega
 obtain⟨b,o,rfl,J,hc⟩:=h D;have hr:l[m]?=some l[m]:=aj hm;have key:∀(j:Nat) (v:Value),j<8->(l[m]).cells[j]?=some v->Cz w b (o+m*8+j) v:=fun j v O hv=>by
  rw[bg];exact hc _ _ ((ig ir.bG j O hr).trans hv)
 exact⟨b,o,l[m],rfl,J,key 0 _ ae rfl,key 1 _ ae rfl,key 2 _ ae rfl,key 3 _ ae rfl,key 4 _ ae rfl,key 5 _ ae rfl,key 6 _ ae rfl,key 7 _ ae rfl,hr⟩
theorem XX (g:Nat) (P:PD) (m:Mk) (Gs R:Nat->Prop) (C:zt) (I a1 J a3 a4 D O a7:Int) (lb:List UInt8) (w:World) (h:jW w Gs R g P m C) (ax:m.un<1000000) (hl:lb.length<=9223372036854775807):
  Wz 16 #[Pz g, .agg #[Iz I,Iz a1,Iz J,Iz a3,Iz a4,Iz D,Iz O,Iz a7, .string (str lb)]] w (ic w Gs R g P C (3+1503*D.toNat) (pC P m ⟨I,a1,J,a3,a4,D,O,a7,lb⟩)):=
 NM g P m Gs R C ⟨I,a1,J,a3,a4,D,O,a7,lb⟩ w h ax hl
theorem UK (Gs R:Nat->Prop) (gg g ob:Nat) (P:PD) (G:vJ) (C:zt) (s:Int) (A:Option Addr) (n c:Nat) (b:List UInt8) (w:World) (h:pX w Gs R gg g ob P G C) (hn:b.length=n) (hl:n<=140737488355328) (hc:n<=c) (gT:c<=9223372036854775807) (hA:Cells w A (ij b))
  (eo:dZ s) (g3:G.m.un<1000000) (eJ:G.on+3+1503*(gw s b).1.aw.toNat<1000000):
  Wz 28 #[Pz gg,Iz s, .slice A n c] w (FJ w Gs R gg g ob P C (yb P G s b)):=by
 obtain⟨Z,eZ⟩:=Zn ((gw s b).1);obtain⟨Y,eY⟩:=Zn ((gw s b).2);have ff:gw s b=(Z,Y):=by rw[eZ,eY]
 rw[<-eZ] at eJ;obtain⟨res,bt⟩:=Zn (yb P G s b);have ax:res=if Y≠0 then (G,Mg s 0 Y) else if Z.kind=1/\64<=ya G s then (G,Mg s Z.id 30) else if Z.kind≠1/\G.own Z.id≠some s then (G,Mg s Z.id 26)
   else (⟨(pC P G.m Z).1,(mQ s (G.own,G.on) (pC P G.m Z).2).1,(mQ s (G.own,G.on) (pC P G.m Z).2).2⟩,qI s G.own (pC P G.m Z).2):=by
  rw[bt];unfold yb;rw[<-eZ,<-eY]
 rw[<-bt];obtain⟨dc,fi,H,HN,HA,HS,eK⟩:=yY ax ff h hn hA eo eJ;clear bt ax eZ eY ff h hn hA eo eJ;obtain⟨ck,ci,cn,cs,ay,cq,cl,ct,cb⟩:=Z
 go_enter Tryz.func28,Tryz.ntmps28
 go_wp2_with fail;refine(JM s A n c b w HN.h hl hc gT HA.h).mono ?_;rw[fi.h];rintro e w1⟨rfl,b1⟩;simp only[bN.val,bN.cells];have eL:=ao b1;clear b1
 by_cases hy:Y=0
 ·subst hy
  obtain⟨a2,fk⟩:=SN fi.h;have fq:dZ ci:=right_id a2;have ep:cb.length<=9223372036854775807:=fk.ky;obtain⟨HR,fx,fz⟩:=fY a2 fq ep;clear a2 fk fq ep
  go_upto_region 4 with(fail)
  obtain⟨w2,dp⟩:=Zn (w1.alloc (.cells #[Iz ck,Iz ci,Iz cn,Iz cs,Iz ay,Iz cq,Iz cl,Iz ct, .string (str cb)] 35));obtain⟨gc,dS⟩:=Zn w1.heap.size;have C2:kM w2 gc ⟨ck,ci,cn,cs,ay,cq,cl,ct,cb⟩:=dp▸dS▸kM.new w1 ⟨ck,ci,cn,cs,ay,cq,cl,ct,cb⟩;have B2:Bz w w2:=dW eL.h (dp▸au (aa _ _) _);have h6:w.heap.size<=gc:=dS▸eL.h.size;rw[<-dp,<-dS];clear dp dS;have G2:=H.h.below B2;obtain⟨fH,fT,f0⟩:=fY G2 C2 B2;have k1:∀u,aR w2.drew u->Cz u gg 1 (.map (some ob)):=fun u hu=>Yb hu G2.D.lt (G2.D.cell 1);have q1:∀u,aR w2.drew u->Cz u gc 1 (Iz ci):=fun u hu=>Yb hu C2.lt (C2.cell 1);have lk:∀u,aR w2.drew u->(Instr.lookup 107 (.map (some ob)) (Iz ci) true).run Tryz.prog u= .ok (.tuple #[Iz ((G.own ci).getD 0), .bool (G.own ci).isSome]) u:=fun u hu=>JO (G2.ow.below ((aS (aa _ _)).trans hu)) fx.h;obtain⟨ow,eM⟩:=Zn ((G.own ci).getD 0);obtain⟨g4,bE⟩:=Zn ((G.own ci).isSome);rw[<-eM,<-bE] at lk;obtain⟨g6,er⟩:=dF eM bE;clear eM bE G2 C2 B2;refine Zg [] [0,1,2,3,4,5,6,7,8,9,10,11] ?_;refine Yt ?_;refine aT ?_;clear k1 q1 lk;obtain⟨w3,eO⟩:=Zn w2.drew;rw[<-eO];have b3:Bz w2 w3:=eO▸aS (aa _ _);have G3:=fH.h.below b3;have C3:=fT.h.below b3;obtain⟨bH,f1,f2⟩:=fY G3 C3 (dW f0.h b3);obtain⟨d0,d1,d2,d3,d4,d5,d6,d7,d8⟩:=C3.reads;obtain⟨z,ez⟩:=Zn (decide (ck=1/\64<=ya G s));have HZ:=ao ez;clear eO b3 fH fT f0 C3 G3 ez
  go_upto_region 5 with(fail)
  go_cut [36] (fun v wx=>v= .bool z/\Bz w3 wx)
  case first=>
   by_cases I:ck=1
   ·have i1:(ck==1)=true:=by simp[I]
    have hz:z=decide (64<=ya G s):=by rw[HZ.h];simp[I]
    have g8:=ao hz;obtain⟨no,f3⟩:=Zn (ya G s);have f4:=ao f3;clear I hz f3;go_wp2_with fail;refine(P4 Gs R gg g ob P G C s w3 bH.h).mono ?_;rw[<-f4.h];rintro e w4⟨rfl,b4⟩;go_wp2_with fail;go_meet;refine⟨?_,b4⟩;rw[g8.h,<-f4.h];exact congrArg Value.bool (decide_eq_decide.2 ae)
   ·have i1:(ck==1)=false:=by simpa using I
    have hz:z=false:=by rw[HZ.h];simp[I]
    clear I;subst hz;go_wp2_with fail;go_meet;exact⟨rfl,aa _ _⟩
  obtain⟨rfl,b4⟩:=hcut;obtain⟨w4,rfl⟩:=Zn wc;have G4:=bH.h.below b4;have C4:=f1.h.below b4;obtain⟨a0,f5,bQ⟩:=fY G4 C4 (dW f2.h b4);clear d0 d1 d2 d3 d4 d5 d6 d7 d8 b4 G4 bH f1 f2;obtain⟨d0,d1,d2,d3,d4,d5,d6,d7,d8⟩:=C4.reads;clear C4;rcases(cG z).symm with hz|hz
  ·subst hz
   have bR:¬(ck=1/\64<=ya G s):=by simpa using HZ.h.symm
   have dT:=ao bR;obtain⟨y,ey⟩:=Zn (decide (ck≠1/\G.own ci≠some s));have HY:=ao ey;clear ey HZ bR
   go_upto_region 7 with(fail)
   go_cut [50] (fun v wx=>v= .bool y/\w4=wx)
   case first=>
    by_cases I:ck=1
    ·have i1:(ck !=1)=false:=by simp[I]
     have bc:y=false:=by rw[HY.h];simp[I]
     clear I;subst bc;go_wp2_with fail;go_meet;exact⟨rfl,rfl⟩
    ·have i1:(ck !=1)=true:=by simpa using I
     cases g4 with
     |false=>
      have bc:y=true:=by
       have:G.own ci=none:=by
        have:=er.h
        cases h0:G.own ci with
        |none=>rfl
        |some v=>rw[h0] at this;cases this
       rw[HY.h,this];simp[I]
      clear I;subst bc;go_wp2_with fail;go_meet;exact⟨rfl,rfl⟩
     |true=>
      have bc:y=(ow !=s):=by
       have h1:=er.h;have h2:=g6.h
       cases h0:G.own ci with
       |none=>rw[h0] at h1;cases h1
       |some v=>
        rw[h0] at h2;rw[HY.h,h0];simp only[qo] at h2;rw[h2]
        by_cases hv:v=s<;>simp[hv,I]
      have g9:=ao bc;clear I bc;go_wp2_with fail;go_meet;exact⟨by rw[g9.h],rfl⟩
   obtain⟨rfl,rfl⟩:=hcut;rcases(cG y).symm with eP|eP
   ·subst eP
    have bU:¬(ck≠1/\G.own ci≠some s):=by simpa using HY.h.symm
    have eQ:=ao bU;clear bU HY;have ax:res=(⟨(pC P G.m ⟨ck,ci,cn,cs,ay,cq,cl,ct,cb⟩).1,(mQ s (G.own,G.on) (pC P G.m ⟨ck,ci,cn,cs,ay,cq,cl,ct,cb⟩).2).1,(mQ s (G.own,G.on) (pC P G.m ⟨ck,ci,cn,cs,ay,cq,cl,ct,cb⟩).2).2⟩,qI s G.own (pC P G.m ⟨ck,ci,cn,cs,ay,cq,cl,ct,cb⟩).2):=by
     rw[dc.h,if_neg bT,if_neg dT.h,if_neg eQ.h]
    have eR:=XX g P G.m Gs R C ck ci cn cs ay cq cl ct cb w4.drew (a0.h.oO.below (aS (aa _ _))) g3 fz.h;have a8:∀r∈(pC P G.m ⟨ck,ci,cn,cs,ay,cq,cl,ct,cb⟩).2,dZ r.id:=fun r hr=>by
     rcases WL hr with h1|⟨x,M,e,h1,h2,h3⟩
     ·rw[h1];exact fx.h
     ·rw[<-h3];exact((H.h.oO.st.JH h1).ok e h2).2.2
    obtain⟨D,eD⟩:=Zn (pC P G.m ⟨ck,ci,cn,cs,ay,cq,cl,ct,cb⟩);rw[<-eD] at ax eR a8;obtain⟨m',L⟩:=D;simp only at ax a8;obtain⟨Fs,d9⟩:=Zn (fun j=>j=gg\/j=gc:Nat->Prop);have mg:Fs gg:=d9▸.inl rfl;have mc:Fs gc:=d9▸.inr rfl;have G4:=a0.h;have C4:=f5.h;have k0:∀u,aI Fs w4.drew u->Cz u gg 0 (Pz g):=fun u hu=>(hu.cell mg).trans (G4.D.cell 0);have q0:∀u,aI Fs w4.drew u->Cz u gc 0 (Iz ck):=fun u hu=>(hu.cell mc).trans d0;have q1:∀u,aI Fs w4.drew u->Cz u gc 1 (Iz ci):=fun u hu=>(hu.cell mc).trans d1;have q2:∀u,aI Fs w4.drew u->Cz u gc 2 (Iz cn):=fun u hu=>(hu.cell mc).trans d2;have q3:∀u,aI Fs w4.drew u->Cz u gc 3 (Iz cs):=fun u hu=>(hu.cell mc).trans d3;have q4:∀u,aI Fs w4.drew u->Cz u gc 4 (Iz ay):=fun u hu=>(hu.cell mc).trans d4;have q5:∀u,aI Fs w4.drew u->Cz u gc 5 (Iz cq):=fun u hu=>(hu.cell mc).trans d5;have q6:∀u,aI Fs w4.drew u->Cz u gc 6 (Iz cl):=fun u hu=>(hu.cell mc).trans d6;have q7:∀u,aI Fs w4.drew u->Cz u gc 7 (Iz ct):=fun u hu=>(hu.cell mc).trans d7;have q8:∀u,aI Fs w4.drew u->Cz u gc 8 (.string (str cb)):=fun u hu=>(hu.cell mc).trans d8;obtain⟨f6,hb,f7,hB⟩:=mh ax eR a8 d9;clear G4 C4 mg mc ax eR a8 eD d9
    go_upto_region 10 with(fail)
    clear d0 d1 d2 d3 d4 d5 d6 d7 d8;refine bx (R:=aI Fs) 99999 [5] [0,1,2,3,4,7,5,6] (by kernel_rfl) (aI.tr _) (aI.J _) (by kernel_rfl) (fun _ _ _ _ _ h=>h) ?_;refine Yt ?_;clear k0 q0 q1 q2 q3 q4 q5 q6 q7 q8;refine Ym fun K hK=>?_;refine hb.h.mono ?_;rintro e w5⟨hlen,A5,hC,bV,rfl,b0,M5,L5,b2,ba⟩;simp only at hlen b0 M5 ba⊢;have b8:∀j,j=gg\/j=gc\/j=ob->¬(j=C.ub\/Gs j):=fun j hj hF=>by
     rcases hj with rfl|rfl|rfl
     ·rcases hF with e|e
      ·exact H.h.CQ.2.1 e
      ·exact H.h.CQ.2.2.1 e
     ·rcases hF with e|e
      ·have:=H.h.lt _ (.inr (.inr (.inr (.inl e))));omega
      ·have:=H.h.lt _ (.inr (.inr (.inr (.inr (.inl e)))));omega
     ·rcases hF with e|e
      ·exact H.h.yQ.2.1 e
      ·exact H.h.yQ.2.2.1 e
    have hh:aI Fs w4.drew w5:=fun j hj=>by
     rw[hB.h] at hj;rcases hj with rfl|rfl
     ·exact L5.block _ a0.h.D.lt (b8 _ (.inl rfl))
     ·exact L5.block _ f5.h.lt (b8 _ (.inr (.inl rfl)))
    refine Yo hK (hh) ?_;obtain⟨N,eN⟩:=Zn L.length;rw[<-eN] at ba⊢;have a6:Lv (fun j=>j=C.ub\/Gs j) w4 w5:=(Lv.drew (Lv.refl _ w4)).then L5;have G5:pX w5 bV R gg g ob P ⟨m',G.own,G.on⟩ C:=by
     have h7:=bQ.h.size;have new:∀j,bV j->Gs j\/w4.heap.size<=j:=fun j hj=>(b2 j hj).imp id fun h=>h.1;refine⟨a0.h.D.lv a6 (b8 _ (.inl rfl)),M5,a0.h.ow.lv a6 (b8 _ (.inr (.inr rfl))),⟨H.h.CQ.1,H.h.CQ.2.1,fun e=>?_,H.h.CQ.2.2.2.1,H.h.CQ.2.2.2.2⟩,⟨H.h.yQ.1,H.h.yQ.2.1,fun e=>?_,H.h.yQ.2.2.2⟩⟩
     ·rcases new _ e with h1|h1
      ·exact H.h.CQ.2.2.1 h1
      ·have:=a0.h.D.lt;omega
     ·rcases new _ e with h1|h1
      ·exact H.h.yQ.2.2.1 h1
      ·have:=a0.h.ow.lt;omega
    have h8:N<=1000000:=cA eK.h;obtain⟨a7,eS,eT,ea,f8,hU,eu⟩:=yY eN b0 G5 a6 b2 ba hlen;clear b0 M5 L5 a6 b2 ba hlen hh b8 G5 eN;refine Yt ?_;refine aT ?_;go_wp2_with fail
    go_loopw [11,13,14,74] (fun v11 _ _ v74 wr=> ∃(m:Nat) (A:Option Addr) (cp O:Nat),m<=N/\v74= Iz (m:Int)/\v11= .slice A O cp/\Hid (O=m/\Zj w5 wr bV R gg g ob P m' C s G.own G.on (L.take m) A cp)) (fun _ _ _ v74 _=>N - (intOf v74).toNat)
    case atStart=>exact⟨0,none,0,0,aB _,rfl,rfl,ao ⟨rfl,⟨aM _ _ _ _,eT.h,Lv.refl _ _⟩⟩⟩
    case round=>
     obtain⟨m,A6,eb,O,hm,rfl,rfl,HI⟩:=hrel
     by_cases ed:m<N
     ·obtain⟨hO,hI⟩:=HI.h
      have b9:wr.ownsRow w4.drew.heap.size 40 8 (.slice A5 L.length hC) L.length (fC L):=aX eS.h fun j hj=>hI.lv.block j (eS.h.lt j hj).2 fun e=>by
       have h1:w4.heap.size<=j:=(eS.h.lt j hj).1;have h2:=a0.h.ow.lt;have e':j=ob:=e;omega
      obtain⟨bb,oo,r,eA,hD,c0,c1,c2,c3,c4,c5,c6,c7,hr⟩:=UJ (dP.O b9) (m:=m) (a7.h▸ed);have cd:dZ r.id:=f7.h r (aH hr.h);obtain⟨own',cf⟩:=Zn ((mQ s (G.own,G.on) (L.take m)).1);obtain⟨eU,ef⟩:=Zn ((mQ s (G.own,G.on) (L.take m)).2);have ew:eU<1000000:=by
       have h1:=JL s (L.take m) (G.own,G.on);have h2:(L.take m).length<=m:=by rw[bJ];omega
       have h3:=eK.h;have h4:=eu.h;have h5:=a7.h;rw[ef];simp only at h1;omega
      have hG:=hI.gt;rw[<-cf,<-ef] at hG;obtain⟨r0,r1,r2,r3,r4,r5,r6,r7⟩:=r;simp only at c0 c1 c2 c3 c4 c5 c6 c7 cd;obtain⟨u1,eg⟩:=Zn (wr.alloc (.cells #[Iz r0,Iz r1,Iz r2,Iz r3,Iz r4,Iz r5,Iz r6,Iz r7] 40));obtain⟨gr,ei⟩:=Zn wr.heap.size;have D1:=Zq eg ei;have ej:=Zw eg;have G1:=hG.below ej;have cm:u1.ownsRow w5.heap.size 65 9 (.slice A6 O eb) O (qJ (qI s G.own (L.take m))):=by
       have h1:=hI.row;have h2:(qI s G.own (L.take m)).length=O:=by rw[pk,hO,bJ];have:=a7.h;omega
       unfold sO at h1;rw[h2] at h1;exact bP h1 ej
      have f9:w5.heap.size<=wr.heap.size:=hI.lv.size;have i1:(m:Int)<N:=ae;obtain⟨eV,hE,HR,eB,eC,gi,gj,ek,eE,bf,a5,el,hH,gq⟩:=TM hO hI hr cd cf ef ew D1 ej G1 cm ed ei f9;rw[eA];clear hO hI hr cd cf ef ew ej G1 cm ed b9 eA hG HI hm f9
      go_upto_region 13 with(fail)
      rw[<-eg,<-ei];clear eg ei c0 c1 c2 c3 c4 c5 c6 c7 hD;have c0:=D1.cell 0;clear D1
      go_upto_if 80 with(fail)
      go_cut [] (fun wx=>Hid (fR wx ob (yc (CP own' s ⟨r0,r1,r2,r3,r4,r5,r6,r7⟩)) (TJ own' eU ⟨r0,r1,r2,r3,r4,r5,r6,r7⟩)/\Lv (fun j=>j=ob) u1 wx))
      case first=>
       by_cases I:r0=1
       ·have i2:(r0==1)=true:=by simp[I]
        obtain⟨u2,hV,cv,gv⟩:=(bf.h.ow.below (aS (aa _ _))).put Tryz.underlying107 eB.h (Iz s) gj.h;have k1:∀u,aR u1.drew u->Cz u gg 1 (.map (some ob)):=fun u hu=>Yb hu bf.h.D.lt (bf.h.D.cell 1);have q1:∀u,aR u1.drew u->Cz u gr 1 (Iz r1):=fun u hu=>Yb hu ek.h.lt (ek.h.cell 1);obtain⟨cF,hJ,gx⟩:=fY I cv gv;clear I cv gv c0;go_wp2_with fail;refine bx (R:=aR) 7 [7] [0,1,2,3,4,5,6,7] (by kernel_rfl) aR.tr aR.J (by kernel_rfl) (fun _ _ _ _ _ h=>h) ?_;refine Yt ?_;clear k1 q1;refine Zl fun K hK=>?_;go_simp;refine Yl hK ?_;refine aT ?_;go_wp2_with fail;go_meet;have cv:=hJ.h;rw[SP,SQ] at cv;unfold CP TJ;simp only;rw[if_pos cF.h,if_pos cF.h];exact ao ⟨cv,(Lv.drew (Lv.refl _ u1)).then (Lv.dy gx.h fun j hj=> .inl (by injection hj with hj;exact hj.symm))⟩
       ·have i2:(r0==1)=false:=by simpa using I
        have cF:=ao I;clear I;go_wp2_with fail;go_meet;unfold CP TJ;simp only;rw[if_neg cF.h,if_neg cF.h];exact ao ⟨bf.h.ow,Lv.refl _ _⟩
      obtain⟨eW,cH⟩:=hcut.h;obtain⟨u3,rfl⟩:=Zn wc;obtain⟨cQ,e0⟩:=Zn (CP own' s ⟨r0,r1,r2,r3,r4,r5,r6,r7⟩);obtain⟨h9,e3⟩:=Zn (TJ own' eU ⟨r0,r1,r2,r3,r4,r5,r6,r7⟩);rw[<-e0,<-e3] at eW;have G3:=bf.h.owner eW cH;have D3:=ek.h.lv cH (fun e=>by have e':gr=ob:=e;have:=a0.h.ow.lt;have:=ea.h.size;have:=gq.h;have:=hH.h;omega);have cS:=aX a5.h fun j hj=>cH.block j (a5.h.lt j hj).2 fun e=>by
       have e':j=ob:=e;have:=(a5.h.lt j hj).1;have:=a0.h.ow.lt;have:=ea.h.size;omega
      have k1:∀u,aR u3.drew u->Cz u gg 1 (.map (some ob)):=fun u hu=>Yb hu G3.D.lt (G3.D.cell 1);have q1:∀u,aR u3.drew u->Cz u gr 1 (Iz r1):=fun u hu=>Yb hu D3.lt (D3.cell 1);have lk:∀u,aR u3.drew u->(Instr.lookup 107 (.map (some ob)) (Iz r1) false).run Tryz.prog u= .ok (Iz ((cQ r1).getD 0)) u:=fun u hu=>JN (G3.ow.below ((aS (aa _ _)).trans hu)) eB.h;obtain⟨t0,e4⟩:=Zn ((cQ r1).getD 0);rw[<-e4] at lk;obtain⟨bH,hM,e5,gy,gA,gG,hN⟩:=yY G3 D3 cS cH e0 e3 e4;clear eW cH e0 e3 G3 D3 cS e4 hcut bf ek a5 c0
      go_upto_region 15 with(fail)
      refine Zg [] [0,1,2,3,4,5,6,7] ?_;refine Yt ?_;refine aT ?_;clear k1 q1 lk;obtain⟨u4,e6⟩:=Zn u3.drew;rw[<-e6];have cT:Bz u3 u4:=e6▸aS (aa _ _);have D4:=hM.h.below cT;obtain⟨gI,cX,eF⟩:=fY (bH.h.below cT) (bP e5.h cT) cT;have c0:Cz u4 gr 0 (Iz r0):=D4.cell 0;have c1:Cz u4 gr 1 (Iz r1):=D4.cell 1;have c2:Cz u4 gr 2 (Iz r2):=D4.cell 2;have c3:Cz u4 gr 3 (Iz r3):=D4.cell 3;have c4:Cz u4 gr 4 (Iz r4):=D4.cell 4;have c5:Cz u4 gr 5 (Iz r5):=D4.cell 5;have c6:Cz u4 gr 6 (Iz r6):=D4.cell 6;have c7:Cz u4 gr 7 (Iz r7):=D4.cell 7;obtain⟨t,et⟩:=Zn (XW cQ s ⟨r0,r1,r2,r3,r4,r5,r6,r7⟩);have HT:=ao et;clear e6 cT D4 et
      go_upto_if 97 with(fail)
      go_cut [14] (fun v wx=>v= Iz t/\u4=wx)
      case first=>
       by_cases bh:r0=2
       ·have i2:(r0==2)=true:=by simp[bh]
        have ht:t=s:=by rw[HT.h];unfold XW;simp[bh]
        clear bh;subst ht;go_wp2_with fail;go_meet;exact⟨rfl,rfl⟩
       ·have i2:(r0==2)=false:=by simpa using bh
        have ht:t=t0:=by rw[HT.h,hN.h];unfold XW;simp[bh]
        clear bh;subst ht;go_wp2_with fail;go_meet;exact⟨rfl,rfl⟩
      obtain⟨rfl,rfl⟩:=hcut;have ia:O<=1000000:=by have:=eV.h;have:=el.h;have:=a7.h;have:=eu.h;have:=eK.h;omega
      have gO:w5.heap.size<=u4.heap.size:=by have:=eF.h.size;have:=gy.h.size;have:=eE.h.size;have:=gq.h;omega
      go_wp2_with (at_builtin
                   refine dO WK cX.h #[Iz t,Iz r0,Iz r1,Iz r2,Iz r3,Iz r4,Iz r5,Iz r6,Iz r7] rfl _ _ rfl rfl rfl rfl (by intro u hu;simp at hu;rcases hu with rfl|rfl|rfl|rfl|rfl|rfl|rfl|rfl|rfl<;>rfl) ae gO ?_;intro A7 hP u5 eG g7 b7 l7;obtain⟨gP,hQ⟩:=dF eG g7;clear eG g7 b7 l7)
      go_roundw
      case rel=>
       have e7:L.take (m+1)=L.take m++[⟨r0,r1,r2,r3,r4,r5,r6,r7⟩]:=by rw[bC,HR.h];rfl
       have ho:=FE s (L.take m) (G.own,G.on) ⟨r0,r1,r2,r3,r4,r5,r6,r7⟩;have hq:=FF s (L.take m) (G.own,G.on) ⟨r0,r1,r2,r3,r4,r5,r6,r7⟩;rw[<-e7,<-eC.h,<-gi.h,<-gA.h,<-gG.h] at ho;rw[<-e7,<-eC.h,<-gA.h,<-HT.h] at hq;have a6:Lv (fun j=>(Value.slice A6 O eb).ownBlock=some j) u4 u5:=Lv.dy hQ.h fun j hj=> .inl hj;have eI:∀j,(Value.slice A6 O eb).ownBlock=some j->w5.heap.size<=j:=fun j hj=>(cX.h.lt j hj).1;have gR:∀j,j=gg\/j=ob\/j=g\/j=C.ub\/bV j\/R j->j<w5.heap.size:=eT.h.lt;refine⟨m+1,A7,hP,O+1,cA el.h,by go_num,rfl,ao ⟨by rw[eV.h],⟨?_,?_,?_⟩⟩⟩
       ·have e9:(qI s G.own (L.take (m+1))).length=O+1:=by rw[pk,e7,aC,bJ,eV.h];have:=a7.h;have:=el.h;simp;omega
        unfold sO;rw[e9,hq,P0];exact gP.h
       ·rw[ho]
        exact gI.h.lv a6 fun k hk e=>jE (gR k hk) (eI k e)
       ·exact((((Lv.cV hE.h.lv eE.h).then gy.h).cV eF.h)).trans a6 fun j hj=> .inr (eI j hj)
      case measure=>have:=el.h;simp[intOf];omega
     ·obtain rfl:m=N:=ae
      have i1:¬((m:Int)<m):=ae;have hI:=HI.h;have hL:L.take m=L:=by rw[a7.h,dE]
      rw[hL] at hI;have bp:=ao hI;clear hI hL HI ed;go_wp2_with fail;go_ret;rw[f6.h];have fa:O=(qI s G.own L).length:=by rw[pk,bp.h.1,a7.h]
      have hW:w.heap.size<=w4.heap.size:=bQ.h.size;have hX:w4.heap.size<=w5.heap.size:=ea.h.size;have hY:w5.heap.size<=wr.heap.size:=bp.h.2.lv.size;have LL:Lv (fun j=>j=ob\/j=C.ub\/Gs j) w wr:=(((Lv.bL bQ.h:Lv (fun j=>j=ob\/j=C.ub\/Gs j) w w4).trans ea.h fun j hj=> .inl (.inr hj))).trans bp.h.2.lv fun j hj=> .inl (.inl hj);refine⟨A6,eb,bV,by rw[fa];rfl,ch bp.h.2.row ae,bp.h.2.gt,LL,fun j hj=>?_,fun bk hT hg=>?_⟩
      ·rcases f8.h j hj with h1|h1
       ·exact .inl h1
       ·exact .inr ⟨by have h2:w4.heap.size<=j:=h1.1;omega,cA h1.2⟩
      ·have h1:=(bp.h.2.row.lt bk hT).1
       have h2:=eT.h.lt bk (.inr (.inr (.inr (.inr (.inl hg)))));omega
   ·subst eP
    have bU:ck≠1/\G.own ci≠some s:=by simpa using HY.h.symm
    have eQ:=ao bU;clear bU HY;go_wp2_with fail;refine(CS s ci 26 w4).mono ?_;rintro e w5⟨A5,cp,rfl,own,b5⟩;go_wp2_with fail;go_ret;rw[dc.h,if_neg bT,if_neg dT.h,if_pos eQ.h];exact FJ.same H.h bQ.h rfl own b5
  ·subst hz
   have bR:ck=1/\64<=ya G s:=by simpa using HZ.h.symm
   have dT:=ao bR;clear bR HZ;go_wp2_with fail;refine(CS s ci 30 w4).mono ?_;rintro e w5⟨A5,cp,rfl,own,b5⟩;go_wp2_with fail;go_ret;rw[dc.h,if_neg bT,if_pos dT.h];exact FJ.same H.h bQ.h rfl own b5
 ·have i1:((Y:Int) !=0)=true:=iW
  have HY:=ao hy;clear hy;go_wp2_with fail;refine(CS s 0 (Y:Int) _).mono ?_;rintro e w3⟨A3,cp,rfl,own,b3⟩;go_wp2_with fail;go_ret;rw[dc.h,if_pos HY.h];exact FJ.same H.h (dW eL.h (au (aa _ _) _)) rfl own b3
theorem GO (l:List mE):(jO l).length=l.length*3:=dX (f:=mE.cells) (fun _=>rfl) l
def JQ (S:Sm) (x k:Nat):List mE:=match S[x]? with|some M=>(M.side k).map vH|none=>[]
theorem zv (s:Nat) (P:PD) (S:Sm) (G R:Nat->Prop) (x k:Nat) (sd:Int) (w:World) (h:dR w G R s P S) (hx:x<P.count) (hk:k<2) (I:sd=(k:Int)+1):
  Wz 60 #[Pz s,Iz (x:Int),Iz sd] w fun e w'=> ∃A c,e= .returned (.slice A (JQ S x k).length c)/\w'.ownsRow w.heap.size 75 3 (.slice A (JQ S x k).length c) (JQ S x k).length (jO (JQ S x k))/\Bz w w':=by
 have ay:=ao I;clear I;have J:=h;obtain⟨C,hS,a0,a2,hR⟩:=h;obtain⟨b,M,hb,hM,hB⟩:=hS.book hx;obtain⟨gA,hA,hp⟩:=mB hS.ob hb;have a5:Cz w s 11 (.slice (some ⟨gA,0,none⟩) C.bs.length C.c):=by rw[<-hA];exact hS.D.cell 11
 have O:JQ S x k=(M.side k).map vH:=by unfold JQ;rw[hM]
 have hlen:((M.side k).map vH).length=(M.side k).length:=br ..;obtain⟨N,eN⟩:=Zn C.bs.length;rw[<-eN] at a5;have a7:(x:Int)<N:=by rw[eN,hS.bn];omega
 obtain⟨HB,HS⟩:=dF hB J;rw[O];obtain⟨L,eL⟩:=Zn ((M.side k).map vH);obtain⟨K,eK⟩:=Zn L.length;rw[<-eL,<-eK];have ax:(M.side k).length=K:=by rw[eK,eL];exact hlen.symm
 obtain⟨a6,HL,HK⟩:=fY ax eL eK;clear hS hB hM hA eN hb J O hlen a0 a2 hR eL eK ax
 go_enter Tryz.func60,Tryz.ntmps60
 go_wp2_with fail;refine(Ag s P S G R x w HS.h hx).mono ?_;rintro e u⟨rfl,rfl⟩;go_wp2_with fail;refine(Jn b M (C.Fs x) k sd w HB.h hk ay.h).mono ?_;rw[a6.h,<-HL.h];rintro e w1⟨A,c,rfl,own,b1⟩;go_wp2_with fail;go_ret;exact⟨A,c,rfl,own,b1⟩
def JR (p a:Int) (l:List Qt):Int:=l.foldl (fun a q=>if q.ag=p then max a q.aw else a) a
def GP (p:Int) (l:List Qt):Nat:=(l.filter fun q=>q.ag==p).length
theorem P6 (p a:Int) (l:List Qt) (q:Qt):JR p a (l++[q])=if q.ag=p then max (JR p a l) q.aw else JR p a l:=by
 unfold JR;rw[Hh];rfl
theorem P7 (p:Int) (l:List Qt) (q:Qt):GP p (l++[q])=if q.ag=p then GP p l+1 else GP p l:=by
 unfold GP;rw[Ea,aC]
 by_cases h:q.ag=p<;>simp[h]
theorem UM (p:Int) (l:List Qt):GP p l<=l.length:=qi _ _
theorem FK (A:Option Addr) (n c:Nat) (l:List Qt) (k:Nat) (s:Int) (w:World) (hn:l.length=n) (hl:n<=1000) (hA:Cells w A (uD l)) (hk:k<2) (hs:s=(k:Int)+1):
  Wz 61 #[.slice A n c,Iz s] w fun e w'=>e= .returned (.tuple #[Iz (pY k l).1.ag,Iz (pY k l).1.aw,Iz (pY k l).1.count, .bool (pY k l).2])/\Bz w w':=by
 have I:pY k l=match nF k l with|none=>(⟨0,0,0⟩,false)|some b=>(⟨b.ag,JR b.ag b.aw l,(GP b.ag l:Int)⟩,true):=rfl
 obtain⟨HA,HN,HS⟩:=fY hA hn hs;have J:=rI A n c l k s w hn hl hA hk hs;clear hA hn hs
 cases hb:nF k l with
 |none=>
  rw[hb] at I J;rw[I];have a5:=ao J;clear I hb J
  go_enter Tryz.func61,Tryz.ntmps61
  go_wp2_with fail;refine a5.mono ?_;rintro e w1⟨rfl,b1⟩;simp only[Uy,tC];go_wp2_with fail
  (try simp only[Exit.inBlock,Exit.then])
  refine bodyPost_ret (v:= .tuple #[Iz 0,Iz 0,Iz 0, .bool false]) (by simp[results,Tryz.results61,go_sem];try rfl) rfl ?_;exact⟨rfl,au b1 _⟩
 |some q=>
  rw[hb] at I J;rw[I];have a5:=ao J;clear I hb J;obtain⟨p,a,i0,k0,i1,k1⟩:=q
  go_enter Tryz.func61,Tryz.ntmps61
  go_wp2_with fail;refine a5.mono ?_;rintro e w1⟨rfl,b1⟩;simp only[Uy,Qt.arr,oG]
  go_upto_region 5 with(fail)
  obtain⟨w2,ay⟩:=Zn (w1.alloc (.cells #[Iz p,Iz a,Iz (i0:Int),Iz ((k0:Int)+1),Iz (i1:Int),Iz ((k1:Int)+1)] 178));obtain⟨gq,a6⟩:=Zn w1.heap.size;have D2:=Zq ay a6;have B2:Bz w w2:=dW b1 (ay▸au (aa _ _) _);have c0:Cz w2 gq 0 (Iz p):=D2.cell 0;have a7:gq<w2.heap.size:=D2.lt;obtain⟨a8,ba⟩:=dF (HA.below B2) B2;rw[<-ay,<-a6];clear ay a6 D2 B2 b1;go_wp2_with fail
  go_loopw [10,11,13,26] (fun v10 v11 _ v26 wr=> ∃m:Nat,m<=n/\v26= Iz (m:Int)/\v10= Iz (JR p a (l.take m))/\v11= Iz (GP p (l.take m):Int)/\Hid (Bz w2 wr)) (fun _ _ _ v26 _=>n - (intOf v26).toNat)
  case atStart=>exact⟨0,aB _,rfl,rfl,rfl,ao (aa _ _)⟩
  case round=>
   obtain⟨m,hm,rfl,rfl,rfl,D⟩:=hrel
   by_cases a0:m<n
   ·obtain⟨b,o,q,eA,bb,q0,q1,q2,q3,q4,q5,hq⟩:=Cy (a8.below D) (m:=m) (HN.h▸a0)
    have bc:(m:Int)<n:=ae;have O:l.take (m+1)=l.take m++[q]:=by rw[bC,hq.h];rfl
    have r0:Cz wr gq 0 (Iz p):=Yb D a7 c0;have bf:gq<wr.heap.size:=aA a7 D.size;obtain⟨M,eM⟩:=Zn (JR p a (l.take m));obtain⟨K,eK⟩:=Zn (GP p (l.take m));have hK:K<=1000:=by have:=UM p (l.take m);rw[<-eK,bJ] at this;omega
    have h1:=P6 p a (l.take m) q;have h2:=P7 p (l.take m) q;rw[<-O,<-eM] at h1;rw[<-O,<-eK] at h2;obtain⟨H1,H2,a2⟩:=fY h1 h2 a0;rw[eA,<-eM,<-eK];obtain⟨qp,qq,j0,l0,j1,l1⟩:=q;simp only at q0 q1 q2 q3 q4 q5 h1 h2;clear h1 h2 a0 hm eA eM eK O hq c0 bb
    by_cases ax:qp=p
    ·have i2:(qp==p)=true:=by simp[ax]
     have HQ:=ao ax;clear ax;go_wp2_with fail;go_roundw
     case rel=>
      refine⟨m+1,cA a2.h,by go_num,?_,?_,ao (au D _)⟩
      ·rw[H1.h,if_pos HQ.h]
      ·rw[H2.h,if_pos HQ.h];go_num
     case measure=>have:=a2.h;simp[intOf];omega
    ·have i2:(qp==p)=false:=by simpa using ax
     have HQ:=ao ax;clear ax;go_wp2_with fail;go_roundw
     case rel=>
      refine⟨m+1,cA a2.h,by go_num,?_,?_,ao (au D _)⟩
      ·rw[H1.h,if_neg HQ.h]
      ·rw[H2.h,if_neg HQ.h]
     case measure=>have:=a2.h;simp[intOf];omega
   ·obtain rfl:m=n:=ae
    have bc:¬((m:Int)<m):=ae;have r0:Cz wr gq 0 (Iz p):=Yb D a7 c0;have O:l.take m=l:=by rw[<-HN.h,dE]
    rw[O];clear O a0 hm c0;go_wp2_with fail
    (try simp only[Exit.inBlock,Exit.then])
    refine bodyPost_ret (v:= .tuple #[Iz p,Iz (JR p a l),Iz (GP p l:Int), .bool true]) (by simp[results,Tryz.results61,go_sem];try rfl) rfl ?_;exact⟨rfl,dW ba D⟩
structure CT where
 sd:Ml
 A:Option Addr
 c:Nat
def CT.cells (y:CT):List Value:=[.slice y.A y.sd.lv.length y.c,Iz y.sd.im.ag,Iz y.sd.im.aw,Iz y.sd.im.count, .bool y.sd.has]
abbrev Dx:=CT×CT
def Yx (e:Dx):List Value:=e.1.cells++e.2.cells
theorem wX (e:Dx):(Yx e).length=10:=rfl
def SR (L:List Dx):List Value:=L.flatMap Yx
theorem Mn (L:List Dx):(SR L).length=L.length*10:=dX wX L
theorem UN (l m:List Dx):SR (l++m)=SR l++SR m:=by simp[SR]
def ke (L:List Dx):vZ:=L.map fun e=>(e.1.sd,e.2.sd)
def CU (w:World) (B:Nat) (y:CT):Prop:=w.ownsRow B 75 3 (.slice y.A y.sd.lv.length y.c) y.sd.lv.length (jO y.sd.lv)
structure nt (w:World) (B:Nat) (A:Option Addr) (c:Nat) (L:List Dx):Prop where
 row:w.ownsRow B 78 10 (.slice A L.length c) L.length (SR L)
 lv:∀e∈L,CU w B e.1∧CU w B e.2
theorem Tryz.UO:(Tryz.prog.info? 78).map (fun i=>(i.zero,i.size,i.bytes))=some (some (.agg #[.slice none 0 0,Iz 0,Iz 0,Iz 0, .bool false, .slice none 0 0,Iz 0,Iz 0,Iz 0, .bool false]),10,112):=by kernel_rfl
theorem XY:kA Tryz.prog 69 78 (.agg #[.slice none 0 0,Iz 0,Iz 0,Iz 0, .bool false, .slice none 0 0,Iz 0,Iz 0,Iz 0, .bool false]) 10 112:=
 ⟨Tryz.underlying69,let ⟨i,h,D,I,J⟩:=info_parts Tryz.UO;⟨i,h,D,I,J⟩,rfl,ae,ae⟩
structure Y5 (w4 wr:World) (g2:Nat) (P:PD) (S:Sm) (n:Nat) (A:Option Addr) (c:Nat) (L:List Dx):Prop where
 D:aE wr g2 71 #[.slice A L.length c]
 vw:nt wr w4.heap.size A c L
 eq:ke L=(kN P S).take n
 len:L.length=n
 lv:Lv (fun j=>j=g2) w4 wr
theorem CU.same {B:Nat} {y:CT} (h:CU w B y) (D:∀g,g<w.heap.size->B<=g->(∃cur,w.heap[g]?=some (.cells cur 75 (0,0)))->w'.heap[g]?=w.heap[g]?):CU w' B y:=
 aX h fun g hg=>D g (h.lt g hg).2 (h.lt g hg).1 (bY h hg)
theorem GQ (P:PD) (S:Sm):(kN P S).length=P.count:=by unfold kN;simp
theorem SS (h:n<P.count):(kN P S)[n]?=some (kK P S n 0,kK P S n 1):=by
 unfold kN;rw[bo,rS h];rfl
theorem P8 (w:World):Wz 59 #[] w fun e w'=> ∃A c,e= .returned (.slice A 2 c)/\Cells w' A (bZ [1,2])/\Bz w w':=by
 go_enter Tryz.func59,Tryz.ntmps59
 go_wp2_with fail;go_ret;exact⟨_,_,rfl,Cells.lit w #[Iz 1,Iz 2] _,au (aa _ _) _⟩
def CT.zero:CT:=⟨Ml.zero,none,0⟩
structure Y6 (u1 wr:World) (gx B:Nat) (P:PD) (S:Sm) (n j:Nat) (y0 y1:CT):Prop where
 D:aE wr gx 78 (y0.cells++y1.cells).toArray
 d0:0<j→y0.sd=kK P S n 0∧CU wr B y0
 z0:j=0→y0=CT.zero
 d1:1<j→y1.sd=kK P S n 1∧CU wr B y1
 z1:j≤1→y1=CT.zero
 lv:Lv (fun k=>k=gx) u1 wr
theorem uM (P:PD) (ma:Option Addr) (mc:Nat) (sa:Option Addr) (sc:Nat) (s:Nat) (S:Sm) (G R:Nat->Prop) (w:World) (hp:iZ w P ma sa) (h:dR w G R s P S):
  Wz 33 #[P.val ma mc sa sc, Pz s] w fun e w'=> ∃A c L,e= .returned (.agg #[.slice A L.length c])/\nt w' w.heap.size A c L/\ke L=kN P S/\Bz w w':=by
 have hL:=hp.right.cnt;obtain⟨w0,cH⟩:=Zn (((w.alloc (.cells (P.cells ma mc sa sc) 25)).alloc (.cells #[.slice none 0 0] 71)).alloc (.cells #[.slice none 0 0] 71));obtain⟨g0,cQ⟩:=Zn w.heap.size;obtain⟨g1,dc⟩:=Zn (g0+1);obtain⟨g2,ep⟩:=Zn (g1+1);have B0:Bz w w0:=by rw[cH];exact au (au (au (aa _ _) _) _) _
 have D0:aE w0 g0 25 (P.cells ma mc sa sc):=by
  rw[cH,cQ];exact((aE.new w _ _).below (au (aa _ _) _)).below (au (aa _ _) _)
 have D1:aE w0 g1 71 #[.slice none 0 0]:=by
  rw[cH,dc,cQ];have:=aE.new (w.alloc (.cells (P.cells ma mc sa sc) 25)) #[.slice none 0 0] 71;rw[cw] at this;exact this.below (au (aa _ _) _)
 have D2:aE w0 g2 71 #[.slice none 0 0]:=by
  rw[cH,ep,dc,cQ];have:=aE.new ((w.alloc (.cells (P.cells ma mc sa sc) 25)).alloc (.cells #[.slice none 0 0] 71)) #[.slice none 0 0] 71;rw[cw,cw] at this;exact this
 obtain⟨c0,c1,c2,c3,c4,c5,c6,c7,c8,c9,wJ⟩:=fM.gX (w:=w0) (g:=g0) D0;obtain⟨HP,H,cS,eO,bQ,eP,f9,hM,hN,hO,hP⟩:=Hl hp h B0 D0 D1 D2 (hp.below B0) (h.below B0) cQ dc ep;rw[PD.jt];clear hp h B0 D0 D1 D2
 go_enter Tryz.func33,Tryz.ntmps33
 go_upto_region 2 with(fail)
 rw[<-cH,<-cQ,<-dc,<-ep];clear cH cQ dc ep;go_wp2_with fail;refine(rC P ma mc sa sc w0 f9.h).mono ?_;rintro e w1⟨rfl,b1⟩;obtain⟨gi,ba⟩:=dF (hM.h.below b1) b1;clear b1 c0 c1 c2 c3 c4 c5 c6 c7 c8 c9 wJ;go_wp2_with fail;refine(vr s P S G R w1 gi.h).mono ?_;rintro e w2⟨At,ct,rfl,eD,b2⟩;have eR:Bz w0 w2:=dW ba.h b2;obtain⟨c0,c1,c2,c3,c4,c5,c6,c7,c8,c9,wJ⟩:=fM.gX (w:=w2) (g:=g0) (eO.h.below eR);obtain⟨gj,dp,gq⟩:=fY eD eR ba.h.size;clear eD b2 eR gi ba;go_wp2_with fail;refine(pP P ma mc sa sc w2 (f9.h.below dp.h)).mono ?_;rintro e w4⟨rfl,b4⟩;have eS:=dW dp.h b4;have hT:=bP gj.h b4;have gv:w0.heap.size<=w1.heap.size:=gq.h;have gy:GC (lU S):=by
  obtain⟨C,hS,_⟩:=H.h;exact hS.WD
 obtain⟨N,eN⟩:=Zn P.count;rw[<-eN];have ih:N<=21:=by rw[eN];exact hL.1
 have eT:=eP.h.below eS;have eU:w.heap.size<=g0/\g0<g1/\g1<g2/\g2<w4.heap.size:=⟨by have:=hN.h;omega,by have:=hO.h;omega,by have:=hP.h;omega,eT.lt⟩;have I4:Y5 w4 w4 g2 P S 0 none 0 []:=⟨eT,⟨aM _ _ _ _,fun e he=>by cases he⟩,rfl,rfl,Lv.refl _ _⟩;obtain⟨hQ,HT,gA,HN,a7,a0,eE⟩:=yY I4 hT gy eN eS eU gv;clear b4 eS hT gy eN eT eU I4 gj dp gq gv c0 c1 c2 c3 c4 c5 c6 c7 c8 c9 wJ;go_wp2_with fail
 go_loopw [27] (fun v wr=> ∃(n:Nat) (A:Option Addr) (c:Nat) (L:List Dx),n<=N/\v= Iz (n:Int)/\Hid (Y5 w4 wr g2 P S n A c L)) (fun v _=>N - (intOf v).toNat)
 case atStart=>exact⟨0,_,_,_,aB _,rfl,hQ⟩
 case round=>
  obtain⟨n,A,c,L,hn,rfl,HI⟩:=hrel
  by_cases cT:n<N
  ·have i1:(n:Int)<N:=by omega
   have bc:=ao cT;clear cT hn;obtain⟨wo,rfl⟩:=Zn wr
   go_upto_region 9 with(fail)
   have hI:=HI.h;obtain⟨u0,er⟩:=Zn (wo.alloc (.cells #[.slice none 0 0,Iz 0,Iz 0,Iz 0, .bool false, .slice none 0 0,Iz 0,Iz 0,Iz 0, .bool false] 78));obtain⟨I,et⟩:=Zn wo.heap.size;have DX:=Zq er et;have gG:=Zw er;rw[<-er,<-et];obtain⟨eu,eF,gI⟩:=fY DX gG et;clear er et hI DX gG;go_wp2_with fail;refine(P8 u0).mono ?_;rintro e u1⟨As,cs,rfl,gO,ew⟩;have I1:Y6 u1 u1 I w4.heap.size P S n 0 CT.zero CT.zero:=⟨eu.h.below ew,fun h=>absurd h (by omega),fun _=>rfl,fun h=>absurd h (by omega),fun _=>rfl,Lv.refl _ _⟩;have LU:Lv (fun j=>j=g2) w4 u1:=(Lv.cV HI.h.lv eF.h).cV ew;obtain⟨hU,gP,hV,cn⟩:=mh I1 gO LU ew;clear I1 gO ew LU;go_wp2_with fail
   go_loopw [32] (fun v wr=> ∃(j:Nat) (y0 y1:CT),j<=2/\v= Iz (j:Int)/\Hid (Y6 u1 wr I w4.heap.size P S n j y0 y1)) (fun v _=>2 - (intOf v).toNat)
   case atStart=>exact⟨0,_,_,by omega,rfl,hU⟩
   case round=>
    obtain⟨j,y0,y1,hj,rfl,HJ⟩:=hrel;have gR:u1.heap.size<=wr.heap.size:=HJ.h.lv.size;have eG:w4.heap.size<=I:=by have:=gI.h;have:=HI.h.lv.size;omega
    have eI:I<u1.heap.size:=by have:=eu.h.lt;have:=cn.h.size;omega
    have LS:Lv (fun k=>k=g2) w4 wr:=hV.h.trans HJ.h.lv fun k J=> .inr (by have e':k=I:=J;omega);obtain⟨a5,ey,cv,cF⟩:=mh LS gR eG eI;clear LS gR eG eI;rcases(show j=0\/j=1\/j=2 by omega) with rfl|rfl|rfl
    ·skip
     obtain rfl:=HJ.h.z0 rfl;obtain rfl:=HJ.h.z1 (by omega);have D:aE wr I 78 #[.slice none 0 0,Iz 0,Iz 0,Iz 0, .bool false, .slice none 0 0,Iz 0,Iz 0,Iz 0, .bool false]:=HJ.h.D;have HD:=ao D;obtain⟨bs,os,es,dS,dT,bf⟩:∃bs os,As=some ⟨bs,os,none⟩/\bs<u1.heap.size/\Cz u1 bs (os+0) (Iz 1)/\bs≠I:=by
      obtain⟨b,o,h1,h2,h3⟩:=gP.h (by simp[bZ]);refine⟨b,o,h1,h2,h3 0 _ rfl,fun e=>?_⟩;have h4:=h3 0 _ rfl;rw[e,lO] at h4;have h5:=(eu.h.below cn.h);have h6:=h5.cell o;rw[h4] at h6;rcases o with _|_|_|_|_|_|_|_|_|_|o<;>simp at h6
     have hW:Cz wr bs os (Iz 1):=Yd (HJ.h.lv.block bs dS bf) dT;rw[es];clear D dS dT bf es;have Bw:Bz w wr:=by
      have h1:=a5.h.below (B:=w.heap.size) (fun k J=>by have e':k=g2:=J;have:=a0.h;omega) (by have:=a0.h;omega);exact(cS.h.trans (a7.h.mono cS.h.size)).trans h1
     have bh:=H.h.below Bw;obtain⟨d2,d3⟩:=dF Bw bh;clear Bw bh;go_wp2_with fail;refine(zv s P S G R n 0 1 wr d3.h (by rw[<-HN.h];exact bc.h) (by omega) (by omega)).mono ?_;obtain⟨LL,bR⟩:=Zn (JQ S n 0);rw[<-bR];obtain⟨nl,bU⟩:=Zn LL.length;rw[<-bU];obtain⟨eV,a6⟩:=dF bR bU;clear bR bU;rintro e v1⟨A1,c1,rfl,bp,b1⟩;have D1:=HD.h.below b1;have z0:=D1.cell 0;have y0:=D1.frozen 0;obtain⟨bQ,bV,ba⟩:=fY D1 bp b1;clear D1 bp b1
     go_upto_region 13 with(fail)
     obtain⟨v2,a2⟩:=Zn (v1.setCell ⟨I,0,none⟩ (.slice A1 nl c1));rw[<-a2];have D2:=bQ.h.set 0 (.slice A1 nl c1);have L2:Lv (fun k=>k=I) wr v2:=by rw[a2];exact(Lv.bL ba.h:Lv (fun k=>k=I) wr v1).setCell (p:=⟨I,0,none⟩) rfl _
     rw[<-a2] at D2;have d4:w.heap.size<=I:=by have:=cv.h;have:=a0.h;omega
     have B2:Bz w v2:=d2.h.trans (L2.below (fun k J=>by have e':k=I:=J;omega) d2.h.size);have ax:∀k,k<w4.heap.size->k≠g2->v2.heap[k]?=w4.heap[k]?:=fun k J ay=>(L2.block k (aA J a5.h.size) (fun e=>by have e':k=I:=e;have:=cv.h;omega)).trans (a5.h.block k J ay);have d5:aE v2 g0 25 (P.cells ma mc sa sc):=(ax g0 (by have:=a0.h;omega) (by have:=a0.h;omega)).trans (eO.h.below a7.h);have d6:=dP.O (aX HT.h fun k J=>ax k (HT.h.lt k J).2 (by have:=(HT.h.lt k J).1;have:=eE.h;have:=eP.h.lt;omega));have bt:v2.ownsRow wr.heap.size 75 3 (.slice A1 nl c1) nl (jO LL):=by
      rw[a2];exact aX bV.h fun k J=>av _ _ _ _ fun e=>by have e':k=I:=e;have:=(bV.h.lt k J).1;have:=cF.h;have:=ey.h;omega
     obtain⟨eW,eY,eZ,e3,e4,e5,e7,e9,fa,ff,d7⟩:=fM.gX (w:=v2) (g:=g0) d5;have hq:=pV P ma mc sa sc At ct (lU S) n 0 1 v2 (HP.h.below B2) d6 (by rw[<-HN.h];exact bc.h) (by omega) (by omega) gA.h;rw[<-HN.h] at hq;obtain⟨Q,eQ⟩:=Zn (iq P (lU S) n 0);rw[<-eQ] at hq;have d8:Q.length<=1000:=by rw[eQ];have:=uF P (lU S) n 0;omega
     obtain⟨nq,d9⟩:=Zn Q.length;have b0:=hq;rw[PD.jt] at b0;obtain⟨HQ,a8,fi,fk,b7,fq,ea⟩:=yY b0 D2 L2 eQ d9 d8 bt;clear a2 D2 L2 B2 ax d5 d6 hq b0 eQ d9 d8 z0 y0 bQ bV ba bt d4;go_wp2_with fail;refine HQ.h.mono ?_;rintro e v3⟨A2,c2,rfl,Qz,b3⟩;rw[<-b7.h];have eb:=dP.O Qz;obtain⟨pr,b8⟩:=Zn ((pY 0 Q).1.ag);obtain⟨qy,b9⟩:=Zn ((pY 0 Q).1.aw);obtain⟨kn,cd⟩:=Zn ((pY 0 Q).1.count);obtain⟨hs,cf⟩:=Zn ((pY 0 Q).2);have ck:=FK A2 nq c2 Q 0 1 v3 b7.h.symm (by rw[b7.h];exact fq.h) eb (by omega) (by omega);rw[<-b8,<-b9,<-cd,<-cf] at ck;obtain⟨fx,fz,fH,fT,f0,f2⟩:=FW ck b3 b8 b9 cd cf;clear b3 Qz eb ck b8 b9 cd cf eW eY eZ e3 e4 e5 e7 e9 fa ff d7;go_wp2_with fail;refine fx.h.mono ?_;rintro e v4⟨rfl,b4⟩;have cl:Bz v2 v4:=dW fz.h b4;have D4:=a8.h.below cl;have z1:=D4.cell 1;have z2:=D4.cell 2;have z3:=D4.cell 3;have z4:=D4.cell 4;have y1:=D4.frozen 1;have y2:=D4.frozen 2;have y3:=D4.frozen 3;have y4:=D4.frozen 4;obtain⟨f3,bE⟩:=dF D4 cl;clear D4 cl b4;simp at z1 z2 z3 z4;go_wp2_with fail;go_roundw
     case rel=>
      have D5:=((((f3.h.set 1 (Iz pr)).set 2 (Iz qy)).set 3 (Iz kn)).set 4 (.bool hs));have L5:Lv (fun k=>k=I) wr ((((v4.setCell ⟨I,1,none⟩ (Iz pr)).setCell ⟨I,2,none⟩ (Iz qy)).setCell ⟨I,3,none⟩ (Iz kn)).setCell ⟨I,4,none⟩ (.bool hs)):=((((Lv.cV fi.h bE.h).setCell (p:=⟨I,1,none⟩) rfl _).setCell (p:=⟨I,2,none⟩) rfl _).setCell (p:=⟨I,3,none⟩) rfl _).setCell (p:=⟨I,4,none⟩) rfl _;rw[a6.h] at D5;have f4:(⟨LL,⟨pr,qy,kn⟩,hs⟩:Ml)=kK P S n 0:=by rw[fH.h,fT.h,f0.h,f2.h,fk.h,eV.h];rfl
      have ed:CU ((((v4.setCell ⟨I,1,none⟩ (Iz pr)).setCell ⟨I,2,none⟩ (Iz qy)).setCell ⟨I,3,none⟩ (Iz kn)).setCell ⟨I,4,none⟩ (.bool hs)) w4.heap.size ⟨⟨LL,⟨pr,qy,kn⟩,hs⟩,A1,c1⟩:=by
       have h0:=ea.h;rw[a6.h] at h0;have h1:=bP h0 bE.h;refine ch (aX h1 fun k J=>?_) a5.h.size;have ay:k≠I:=by have:=(h1.lt k J).1;have:=cF.h;have:=ey.h;omega
       rw[av _ _ _ _ ay,av _ _ _ _ ay,av _ _ _ _ ay,av _ _ _ _ ay]
      exact⟨1,⟨⟨LL,⟨pr,qy,kn⟩,hs⟩,A1,c1⟩,CT.zero,by omega,rfl,ao ⟨D5,fun _=>⟨f4,ed⟩,fun h=>absurd h (by omega),fun h=>absurd h (by omega),fun _=>rfl,HJ.h.lv.then L5⟩⟩
     case measure=>simp[intOf]
    ·skip
     obtain rfl:=HJ.h.z1 (by omega);obtain⟨ef,eg⟩:=HJ.h.d0 (by omega);obtain⟨⟨bb,⟨p0,q0,k0⟩,h0⟩,A0,c0⟩:=y0;obtain⟨n0,cm⟩:=Zn bb.length;obtain⟨f5,gT,f7⟩:=fY ef eg cm;clear ef eg;have D:aE wr I 78 #[.slice A0 n0 c0,Iz p0,Iz q0,Iz k0, .bool h0, .slice none 0 0,Iz 0,Iz 0,Iz 0, .bool false]:=by rw[cm];exact HJ.h.D
     clear cm;have HD:=ao D;obtain⟨bs,os,es,dS,dT,bf⟩:∃bs os,As=some ⟨bs,os,none⟩/\bs<u1.heap.size/\Cz u1 bs (os+1) (Iz 2)/\bs≠I:=by
      obtain⟨b,o,h1,h2,h3⟩:=gP.h (by simp[bZ]);refine⟨b,o,h1,h2,h3 1 _ rfl,fun e=>?_⟩;have h4:=h3 0 _ rfl;rw[e,lO] at h4;have h5:=(eu.h.below cn.h);have h6:=h5.cell o;rw[h4] at h6;rcases o with _|_|_|_|_|_|_|_|_|_|o<;>simp at h6
     have hW:Cz wr bs (os+1) (Iz 2):=Yd (HJ.h.lv.block bs dS bf) dT;rw[es];clear D dS dT bf es;have Bw:Bz w wr:=by
      have h1:=a5.h.below (B:=w.heap.size) (fun k J=>by have e':k=g2:=J;have:=a0.h;omega) (by have:=a0.h;omega);exact(cS.h.trans (a7.h.mono cS.h.size)).trans h1
     have bh:=H.h.below Bw;obtain⟨d2,d3⟩:=dF Bw bh;clear Bw bh;go_wp2_with fail;refine(zv s P S G R n 1 2 wr d3.h (by rw[<-HN.h];exact bc.h) (by omega) (by omega)).mono ?_;obtain⟨LL,bR⟩:=Zn (JQ S n 1);rw[<-bR];obtain⟨nl,bU⟩:=Zn LL.length;rw[<-bU];obtain⟨eV,a6⟩:=dF bR bU;clear bR bU;rintro e v1⟨A1,c1,rfl,bp,b1⟩;have D1:=HD.h.below b1;have z0:=D1.cell 5;have y0:=D1.frozen 5;obtain⟨bQ,bV,ba⟩:=fY D1 bp b1;clear D1 bp b1
     go_upto_region 13 with(fail)
     obtain⟨v2,a2⟩:=Zn (v1.setCell ⟨I,5,none⟩ (.slice A1 nl c1));rw[<-a2];have D2:=bQ.h.set 5 (.slice A1 nl c1);have L2:Lv (fun k=>k=I) wr v2:=by rw[a2];exact(Lv.bL ba.h:Lv (fun k=>k=I) wr v1).setCell (p:=⟨I,5,none⟩) rfl _
     rw[<-a2] at D2;have d4:w.heap.size<=I:=by have:=cv.h;have:=a0.h;omega
     have B2:Bz w v2:=d2.h.trans (L2.below (fun k J=>by have e':k=I:=J;omega) d2.h.size);have ax:∀k,k<w4.heap.size->k≠g2->v2.heap[k]?=w4.heap[k]?:=fun k J ay=>(L2.block k (aA J a5.h.size) (fun e=>by have e':k=I:=e;have:=cv.h;omega)).trans (a5.h.block k J ay);have d5:aE v2 g0 25 (P.cells ma mc sa sc):=(ax g0 (by have:=a0.h;omega) (by have:=a0.h;omega)).trans (eO.h.below a7.h);have d6:=dP.O (aX HT.h fun k J=>ax k (HT.h.lt k J).2 (by have:=(HT.h.lt k J).1;have:=eE.h;have:=eP.h.lt;omega));have bt:v2.ownsRow wr.heap.size 75 3 (.slice A1 nl c1) nl (jO LL):=by
      rw[a2];exact aX bV.h fun k J=>av _ _ _ _ fun e=>by have e':k=I:=e;have:=(bV.h.lt k J).1;have:=cF.h;have:=ey.h;omega
     obtain⟨eW,eY,eZ,e3,e4,e5,e7,e9,fa,ff,d7⟩:=fM.gX (w:=v2) (g:=g0) d5;have hq:=pV P ma mc sa sc At ct (lU S) n 1 2 v2 (HP.h.below B2) d6 (by rw[<-HN.h];exact bc.h) (by omega) (by omega) gA.h;rw[<-HN.h] at hq;obtain⟨Q,eQ⟩:=Zn (iq P (lU S) n 1);rw[<-eQ] at hq;have d8:Q.length<=1000:=by rw[eQ];have:=uF P (lU S) n 1;omega
     obtain⟨nq,d9⟩:=Zn Q.length;have b0:=hq;rw[PD.jt] at b0;obtain⟨HQ,a8,fi,fk,b7,fq,ea⟩:=yY b0 D2 L2 eQ d9 d8 bt;clear a2 D2 L2 B2 ax d5 d6 hq b0 eQ d9 d8 z0 y0 bQ bV ba bt d4;go_wp2_with fail;refine HQ.h.mono ?_;rintro e v3⟨A2,c2,rfl,Qz,b3⟩;rw[<-b7.h];have eb:=dP.O Qz;obtain⟨pr,b8⟩:=Zn ((pY 1 Q).1.ag);obtain⟨qy,b9⟩:=Zn ((pY 1 Q).1.aw);obtain⟨kn,cd⟩:=Zn ((pY 1 Q).1.count);obtain⟨hs,cf⟩:=Zn ((pY 1 Q).2);have ck:=FK A2 nq c2 Q 1 2 v3 b7.h.symm (by rw[b7.h];exact fq.h) eb (by omega) (by omega);rw[<-b8,<-b9,<-cd,<-cf] at ck;obtain⟨fx,fz,fH,fT,f0,f2⟩:=FW ck b3 b8 b9 cd cf;clear b3 Qz eb ck b8 b9 cd cf eW eY eZ e3 e4 e5 e7 e9 fa ff d7;go_wp2_with fail;refine fx.h.mono ?_;rintro e v4⟨rfl,b4⟩;have cl:Bz v2 v4:=dW fz.h b4;have D4:=a8.h.below cl;have z1:=D4.cell 6;have z2:=D4.cell 7;have z3:=D4.cell 8;have z4:=D4.cell 9;have y1:=D4.frozen 6;have y2:=D4.frozen 7;have y3:=D4.frozen 8;have y4:=D4.frozen 9;obtain⟨f3,bE⟩:=dF D4 cl;clear D4 cl b4;simp at z1 z2 z3 z4;go_wp2_with fail;go_roundw
     case rel=>
      have D5:=((((f3.h.set 6 (Iz pr)).set 7 (Iz qy)).set 8 (Iz kn)).set 9 (.bool hs));have L5:Lv (fun k=>k=I) wr ((((v4.setCell ⟨I,6,none⟩ (Iz pr)).setCell ⟨I,7,none⟩ (Iz qy)).setCell ⟨I,8,none⟩ (Iz kn)).setCell ⟨I,9,none⟩ (.bool hs)):=((((Lv.cV fi.h bE.h).setCell (p:=⟨I,6,none⟩) rfl _).setCell (p:=⟨I,7,none⟩) rfl _).setCell (p:=⟨I,8,none⟩) rfl _).setCell (p:=⟨I,9,none⟩) rfl _;rw[a6.h] at D5;have f4:(⟨LL,⟨pr,qy,kn⟩,hs⟩:Ml)=kK P S n 1:=by rw[fH.h,fT.h,f0.h,f2.h,fk.h,eV.h];rfl
      have ed:CU ((((v4.setCell ⟨I,6,none⟩ (Iz pr)).setCell ⟨I,7,none⟩ (Iz qy)).setCell ⟨I,8,none⟩ (Iz kn)).setCell ⟨I,9,none⟩ (.bool hs)) w4.heap.size ⟨⟨LL,⟨pr,qy,kn⟩,hs⟩,A1,c1⟩:=by
       have h0:=ea.h;rw[a6.h] at h0;have h1:=bP h0 bE.h;refine ch (aX h1 fun k J=>?_) a5.h.size;have ay:k≠I:=by have:=(h1.lt k J).1;have:=cF.h;have:=ey.h;omega
       rw[av _ _ _ _ ay,av _ _ _ _ ay,av _ _ _ _ ay,av _ _ _ _ ay]
      have g3:=gT.h.same (w':=((((v4.setCell ⟨I,6,none⟩ (Iz pr)).setCell ⟨I,7,none⟩ (Iz qy)).setCell ⟨I,8,none⟩ (Iz kn)).setCell ⟨I,9,none⟩ (.bool hs))) fun k J _ hc=>L5.block k J fun e=>by
       have e':k=I:=e;obtain⟨cur,hc⟩:=hc;exact jY HD.h hc (by decide) e'
      rw[f7.h] at D5;exact⟨2,⟨⟨bb,⟨p0,q0,k0⟩,h0⟩,A0,c0⟩,⟨⟨LL,⟨pr,qy,kn⟩,hs⟩,A1,c1⟩,by omega,rfl,ao ⟨D5,fun _=>⟨f5.h,g3⟩,fun h=>absurd h (by omega),fun _=>⟨f4,ed⟩,fun h=>absurd h (by omega),HJ.h.lv.then L5⟩⟩
     case measure=>simp[intOf]
    ·obtain⟨ef,eg⟩:=HJ.h.d0 (by omega)
     obtain⟨g4,g7⟩:=HJ.h.d1 (by omega);obtain⟨⟨bb,⟨p0,q0,k0⟩,h0⟩,A0,d0⟩:=y0;obtain⟨⟨cX,⟨p1,q1,k1⟩,h1⟩,A1,d1⟩:=y1;obtain⟨n0,cm⟩:=Zn bb.length;obtain⟨n1,f8⟩:=Zn cX.length;obtain⟨NL,bH⟩:=Zn L.length;have D:aE wr I 78 #[.slice A0 n0 d0,Iz p0,Iz q0,Iz k0, .bool h0, .slice A1 n1 d1,Iz p1,Iz q1,Iz k1, .bool h1]:=by rw[cm,f8];exact HJ.h.D
     have r0:=D.cell 0;have r1:=D.cell 1;have r2:=D.cell 2;have r3:=D.cell 3;have r4:=D.cell 4;have r5:=D.cell 5;have r6:=D.cell 6;have r7:=D.cell 7;have r8:=D.cell 8;have r9:=D.cell 9;simp at r0 r1 r2 r3 r4 r5 r6 r7 r8 r9;have g8:=gI.h;have g9:g2<wo.heap.size:=HI.h.D.lt;have ez:Lv (fun k=>k=I) wo wr:=((Lv.bL eF.h:Lv (fun k=>k=I) wo u0).cV cn.h).then HJ.h.lv;have D2:aE wr g2 71 #[.slice A NL c]:=by rw[bH];exact HI.h.D.lv ez (fun e=>by have e':g2=I:=e;omega)
     have k2:Cz wr g2 0 (.slice A NL c):=D2.cell 0;have ei:wr.ownsRow w4.heap.size 78 10 (.slice A NL c) NL (SR L):=by
      rw[bH];exact aX HI.h.vw.row fun k J=>ez.block k (HI.h.vw.row.lt k J).2 fun e=>by have e':k=I:=e;have:=(HI.h.vw.row.lt k J).2;omega
     have eJ:(Value.slice A NL c).ownBlock≠some g2:=fun e=>by
      obtain⟨cur,hc⟩:=bY ei e;exact jY D2 hc (by decide) rfl
     have iF:NL<=21:=by have:=HI.h.len;have:=bc.h;omega
     have hh:w4.heap.size<=wr.heap.size:=a5.h.size;have hl:g2<wr.heap.size:=D2.lt;obtain⟨HD,a8,ej,hX,f5,hY,ho,ht,hC,f7,h7,a6,hD,hE⟩:=TM D D2 ei eJ ef g4 eg g7 ez cm f8 bH hl g8;clear D D2 ei eJ ef g4 eg g7 ez cm f8 bH g9 hj g8
     go_wp2_with (at_builtin
                  refine dO XY ej.h #[.slice A0 n0 d0,Iz p0,Iz q0,Iz k0, .bool h0, .slice A1 n1 d1,Iz p1,Iz q1,Iz k1, .bool h1] rfl _ _ rfl rfl rfl rfl (by intro u hu;simp at hu;rcases hu with rfl|rfl|rfl|rfl|rfl|rfl|rfl|rfl|rfl|rfl<;>rfl) (by omega) hh ?_;intro A2 c2 v6 eK g6 b6 l6;have e6:v6.heap[g2]?=wr.heap[g2]?:=g6.block g2 hD.h fun e=>hX.h e.symm;have k6:Cz v6 g2 0 (.slice A NL c):=Yd e6 k2;have f6:Fz v6 g2 0:=(aY (a:=⟨g2,0,none⟩) e6).trans (a8.h.frozen 0);obtain⟨eL,h8,i3,h9⟩:=mh eK g6 l6 e6;clear eK g6 b6 l6 e6)
     go_roundw
     case rel=>
      have L6:Lv (fun k=>(Value.slice A NL c).ownBlock=some k) wr v6:=Lv.dy h8.h fun k J=> .inl J;have eA:∀(y:CT) (u:World),CU u w4.heap.size y->u.heap.size<=wr.heap.size->(∀k,k<u.heap.size->k≠I->wr.heap[k]?=u.heap[k]?)->(∀k,k<u.heap.size->(∃cur,u.heap[k]?=some (.cells cur 75 (0,0)))->k≠I)->CU (v6.setCell ⟨g2,0,none⟩ (.slice A2 (NL+1) c2)) w4.heap.size y:=fun y u hy hh J hg=>by
       refine hy.same fun k cT hB hc=>?_;have h1:=J k cT (hg k cT hc);obtain⟨cur,hc⟩:=hc;rw[av _ _ _ _ (show k≠g2 by have:=a0.h;omega),L6.block k (by omega) fun e=>?_,h1];obtain⟨il,eB⟩:=bY ej.h e;rw[h1,hc] at eB;injection eB with eB;injection eB with _ h2 _;exact absurd h2 (by decide)
      have ek:∀k,k<wr.heap.size->(∃cur,wr.heap[k]?=some (.cells cur 75 (0,0)))->k≠I:=fun k _ hc e=>by
       obtain⟨cur,hc⟩:=hc;exact jY HD.h hc (by decide) e
      have hG:(v6.setCell ⟨g2,0,none⟩ (.slice A2 (NL+1) c2)).ownsRow w4.heap.size 78 10 (.slice A2 (NL+1) c2) (NL+1) (SR L++#[.slice A0 n0 d0,Iz p0,Iz q0,Iz k0, .bool h0, .slice A1 n1 d1,Iz p1,Iz q1,Iz k1, .bool h1].toList):=aX eL.h fun k J=>av _ _ _ _ fun e=>by have e':k=g2:=e;have:=(eL.h.lt k J).1;have:=a0.h;omega
      have hH:Yx ((⟨⟨bb,⟨p0,q0,k0⟩,h0⟩,A0,d0⟩,⟨⟨cX,⟨p1,q1,k1⟩,h1⟩,A1,d1⟩):Dx)=#[.slice A0 n0 d0,Iz p0,Iz q0,Iz k0, .bool h0, .slice A1 n1 d1,Iz p1,Iz q1,Iz k1, .bool h1].toList:=by rw[f7.h,h7.h];rfl
      have hlen:(L++[((⟨⟨bb,⟨p0,q0,k0⟩,h0⟩,A0,d0⟩,⟨⟨cX,⟨p1,q1,k1⟩,h1⟩,A1,d1⟩):Dx)]).length=NL+1:=by rw[aC,a6.h];rfl
      refine⟨n+1,A2,c2,L++[((⟨⟨bb,⟨p0,q0,k0⟩,h0⟩,A0,d0⟩,⟨⟨cX,⟨p1,q1,k1⟩,h1⟩,A1,d1⟩):Dx)],by have:=bc.h;omega,by go_num,ao ⟨?_,⟨?_,fun e he=>?_⟩,?_,?_,?_⟩⟩
      ·rw[hlen]
       exact(a8.h.block h9.h).set 0 _
      ·rw[hlen,UN]
       have:SR [((⟨⟨bb,⟨p0,q0,k0⟩,h0⟩,A0,d0⟩,⟨⟨cX,⟨p1,q1,k1⟩,h1⟩,A1,d1⟩):Dx)]=#[.slice A0 n0 d0,Iz p0,Iz q0,Iz k0, .bool h0, .slice A1 n1 d1,Iz p1,Iz q1,Iz k1, .bool h1].toList:=by rw[<-hH];simp[SR]
       rw[this];exact hG
      ·rcases aJ.1 he with he|he
       ·obtain⟨h1,h2⟩:=HI.h.vw.lv e he
        have hb:=fun k (J:k<wo.heap.size) (ay:k≠I)=>hC.h.block k J ay;have hz:=hC.h.size;have hg:∀k,k<wo.heap.size->(∃cur,wo.heap[k]?=some (.cells cur 75 (0,0)))->k≠I:=fun k J _=>by have:=hE.h;omega
        exact⟨eA _ wo h1 hz hb hg,eA _ wo h2 hz hb hg⟩
       ·have ia:=List.mem_singleton.1 he
        rw[ia];exact⟨eA _ wr ho.h (af _) (fun _ _ _=>rfl) ek,eA _ wr ht.h (af _) (fun _ _ _=>rfl) ek⟩
      ·rw[bC,SS (by rw[<-HN.h];exact bc.h),<-HI.h.eq]
       show ke (L++_)=ke L++_;unfold ke;rw[cx]
       congr 1
       simp only[aW,iM,tB];have e0:(⟨bb,⟨p0,q0,k0⟩,h0⟩:Ml)=kK P S n 0:=f5.h;have e1:(⟨cX,⟨p1,q1,k1⟩,h1⟩:Ml)=kK P S n 1:=hY.h;rw[e0,e1]
      ·rw[hlen,<-HI.h.len,a6.h]
      ·exact((a5.h.trans L6 fun k J=> .inr (ej.h.lt k J).1)).setCell (p:=⟨g2,0,none⟩) rfl _
     case measure=>have:=bc.h;simp[intOf];omega
  ·obtain rfl:n=N:=by omega
   have i1:¬((n:Int)<n):=by omega
   have hI:=HI.h;obtain⟨NL,bH⟩:=Zn L.length;have D2:aE wr g2 71 #[.slice A NL c]:=by rw[bH];exact hI.D
   have D1:aE wr g1 71 #[.slice none 0 0]:=(bQ.h.below a7.h).lv hI.lv (fun e=>by have e':g1=g2:=e;have:=a0.h;omega);have k2:Cz wr g2 0 (.slice A NL c):=D2.cell 0;have k1:Cz wr g1 0 (.slice none 0 0):=D1.cell 0;have f1:Fz wr g1 0:=D1.frozen 0;obtain⟨el,hJ,a6⟩:=fY hI D1 bH;clear hI D2 D1 bH HI cT;go_wp2_with fail
   (try simp only[Exit.inBlock,Exit.then])
   obtain⟨wz,eC⟩:=Zn (wr.setCell ⟨g1,0,none⟩ (.slice A NL c));refine iv eC ?_;have eM:=hJ.h.set 0 (.slice A NL c);rw[<-eC] at eM;have r0:Cz wz g1 0 (.slice A NL c):=eM.cell 0;clear k1 f1 k2;refine bodyPost_ret (v:= .agg #[.slice A NL c]) (by simp[results,Tryz.results33,go_sem,r0];try rfl) rfl ?_;have eo:∀k,k≠g1->wz.heap[k]?=wr.heap[k]?:=fun k J=>by rw[eC];exact av _ _ _ _ J
   have eU:=a0.h;have ib:Bz w wr:=(cS.h.trans (a7.h.mono cS.h.size)).trans (el.h.lv.below (B:=w.heap.size) (fun k J=>by have e':k=g2:=J;omega) (by omega));refine⟨A,c,L,by rw[a6.h],⟨?_,fun e he=>?_⟩,?_,by rw[eC];exact ib.setCell (p:=⟨g1,0,none⟩) (by show w.heap.size<=g1;omega) _⟩
   ·exact ch (aX el.h.vw.row fun k J=>eo k (by have:=(el.h.vw.row.lt k J).1;omega)) (by omega)
   ·obtain⟨h1,h2⟩:=el.h.vw.lv e he
    exact⟨ch (aX h1 fun k J=>eo k (by have:=(h1.lt k J).1;omega)) (by omega),ch (aX h2 fun k J=>eo k (by have:=(h2.lt k J).1;omega)) (by omega)⟩
   ·rw[el.h.eq,aL]
    rw[GQ,<-HN.h];exact af _
end Go.Proofs.YtbaaheidifacaaaGreat
