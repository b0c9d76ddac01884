import Derived.Test.YtbaaheidifacaaaGreatQCmd
import Derived.Test.YtbaaheidifacaaaGreatQMatch2
set_option linter.defProp false
set_option linter.unusedVariables false
set_option linter.unusedSimpArgs false
set_option maxRecDepth 100000
set_option maxHeartbeats 12800000
namespace Go.Proofs.YtbaaheidifacaaaGreat
variable {A A' A2 Ab ma sa:Option Addr} {B c c2 cb g go k mc n s sc ub:Nat} {Fs:Nat→Nat→Prop} {Gs R:Nat→Prop} {L:List zJ} {P:PD} {S:Sm} {T T':TypeId} {bs:List Nat} {cs:Array Value} {f:Int→Option Value} {id ag aw:Int} {l:List fG} {m:Mk} {p:fG→Bool} {r:ir} {res:Mk×List ir} {st:jz} {u w w':World} {us xs ys:List Value} {v x:Value} {y:zJ}
open Go.RowKit
theorem Tryz.UB:(Tryz.prog.info? 133).map (fun i=>(i.zero,i.size,i.bytes))=some (some (.pointer none),1,8):=by kernel_rfl
theorem VU:kA Tryz.prog 130 133 (.pointer none) 1 8:=
 ⟨Tryz.underlying130,let ⟨i,h,D,I,J⟩:=info_parts Tryz.UB;⟨i,h,D,I,J⟩,rfl,ae,ae⟩
structure TI (w wr:World) (gc mb:Nat) (P:PD) (ma:Option Addr) (mc:Nat) (sa:Option Addr) (sc:Nat) (f:Int→Option Value) (N:Nat) (S:Sm) (n:Nat) (Ab:Option Addr) (cb:Nat) (bs:List Nat) (Fs:Nat→Nat→Prop):Prop where
 D:aE wr gc 132 (NF.cells ⟨ma,mc,sa,sc,Ab,cb,bs,Fs,mb,f⟩ P)
 row:wr.ownsRow w.heap.size 133 1 (.slice Ab bs.length cb) bs.length (zp bs)
 mp:fR wr mb f N
 len:bs.length=n
 bk:∀(x b:Nat) (M:BM),bs[x]?=some b→S[x]?=some M→cz wr (Fs x) b M
 dj:∀x y k,Fs x k→Fs y k→x=y
 off:∀x k,Fs x k→w.heap.size≤k∧k<wr.heap.size∧k≠gc∧k≠mb∧(Value.slice Ab bs.length cb).ownBlock≠some k
 lo:w.heap.size≤gc∧w.heap.size≤mb
 jm:Bz w wr
theorem LW (bs:List Nat) (b:Nat):zp (bs++[b])=zp bs++[Pz b]:=by simp[zp]
theorem TI.push {wr w2 w3 w6:World} {gc mb:Nat} {N:Nat} {b:Nat} {M:BM} 
  (h:TI w wr gc mb P ma mc sa sc f N S n Ab cb bs Fs) (hM:S[n]?=some M) (hb:cz w2 (qO wr w2) b M) (b2:Bz wr w2) (b3:Bz w2 w3) (O:lJ w3 w.heap.size 133 1 (.slice Ab bs.length cb) (bs.length+1) (zp bs++[Pz b]) A2 c2 w6):
  TI w (w6.setCell ⟨gc,11,none⟩ (.slice A2 (bs.length+1) c2)) gc mb P ma mc sa sc f N S (n+1) A2 c2 (bs++[b]) (fun x=>if x=n then qO wr w2 else Fs x):=by
 have hl:(bs++[b]).length=bs.length+1:=bT;have bt:=b2.size;have bE:=b3.size;have bH:w3.heap.size<=w6.heap.size:=O.grown.size;have B3:=dW b2 b3;have ba:=h.jm.size;have ay:=h.D.below B3;have a0:∀g,(Value.slice Ab bs.length cb).ownBlock=some g->w.heap.size<=g/\g<wr.heap.size:=fun g hg=>h.row.lt g hg;have a2:(Value.slice Ab bs.length cb).ownBlock≠some gc:=fun e=>by
  obtain⟨cur,hc⟩:=bY h.row e;exact jY h.D hc (by decide) rfl
 have a7:=ay.block (O.grown.block gc ay.lt fun e=>a2 e.symm);have a5:∀{cur:Array Value} {T:TypeId} {k:Nat},wr.heap[k]?=some (.cells cur T (0,0))->k≠mb:=fun {cur T k} hc e=>by
  obtain⟨D,⟨es,clock,a8,_⟩,_⟩:=h.mp;rw[e] at hc;rw[hc] at a8;cases a8
 have bb:gc≠mb:=a5 h.D;have bc:(Value.slice Ab bs.length cb).ownBlock≠some mb:=fun e=>by
  obtain⟨cur,hc⟩:=bY h.row e;exact a5 hc rfl
 have keep:∀k,k<wr.heap.size->k≠gc->(Value.slice Ab bs.length cb).ownBlock≠some k->(w6.setCell ⟨gc,11,none⟩ (.slice A2 (bs.length+1) c2)).heap[k]?=wr.heap[k]?:=fun k hk I J=>by
  rw[av _ _ _ _ I,O.grown.block k ae fun e=>J e.symm];exact B3.block k hk
 have a6:∀k,k<w2.heap.size->wr.heap.size<=k->(w6.setCell ⟨gc,11,none⟩ (.slice A2 (bs.length+1) c2)).heap[k]?=w2.heap[k]?:=fun k hk I=>by
  rw[av _ _ _ _ (show k≠gc by have:=h.D.lt;omega),O.grown.block k ae fun e=>cA (a0 k e.symm)];exact b3.block k hk
 have ax:∀g,(Value.slice A2 (bs.length+1) c2).ownBlock=some g->(Value.slice Ab bs.length cb).ownBlock=some g\/g=w3.heap.size:=fun g hg=>by
  rcases O.jV with I|I
  ·rw[I] at hg;exact .inl hg
  ·rw[I] at hg;injection hg with hg;exact .inr hg.symm
 have bQ:gc<wr.heap.size:=h.D.lt;have bf:mb<wr.heap.size:=h.mp.lt;refine⟨?_,?_,h.mp.block (keep mb bf (Ne.symm bb) bc),by rw[hl,h.len],fun x b' M' I J=>?_,fun x y k I J=>?_,fun x k hk=>?_,h.lo,?_⟩
 ·have h5:=a7.set 11 (.slice A2 (bs.length+1) c2)
  rw[<-hl] at h5;rw[<-hl];exact h5
 ·rw[hl,LW]
  refine aX O.own fun g hg=>av _ _ _ _ fun e=>?_;have e':g=gc:=e;subst e';rcases ax _ hg with I|I
  ·exact a2 I
  ·omega
 ·by_cases hx:x=n
  ·subst hx
   rw[if_pos rfl];rw[<-h.len,bK (af _),Vn] at I;have bh:b=b':=by simpa using I
   subst bh;rw[hM] at J;injection J with J;subst J;exact hb.same fun k hk hF=>a6 k hk hF.1
  ·rw[if_neg hx]
   have bp:x<bs.length:=by
    have:=(az.1 I).1;rw[hl] at this;have:=h.len;omega
   rw[bX bp] at I;refine(h.bk x b' M' I J).same fun k hk hF=>keep k hk (h.off x k hF).2.2.1 (h.off x k hF).2.2.2.2
 ·by_cases hx:x=n
  ·by_cases hy:y=n
   ·omega
   ·rw[if_pos hx] at I
    rw[if_neg hy] at J;have:=(h.off y k J).2.1;have:=I.1;omega
  ·by_cases hy:y=n
   ·rw[if_neg hx] at I
    rw[if_pos hy] at J;have:=(h.off x k I).2.1;have:=J.1;omega
   ·rw[if_neg hx] at I
    rw[if_neg hy] at J;exact h.dj x y k I J
 ·have hz:(w6.setCell ⟨gc,11,none⟩ (.slice A2 (bs.length+1) c2)).heap.size=w6.heap.size:=bT
  rw[hl,hz]
  by_cases hx:x=n
  ·rw[if_pos hx] at hk
   obtain⟨I,J⟩:=hk;refine⟨ae,ae,ae,ae,fun e=>?_⟩;rcases ax k e with h3|h3
   ·have:=a0 k h3;omega
   ·omega
  ·rw[if_neg hx] at hk
   obtain⟨I,J,h3,h4,h5⟩:=h.off x k hk;refine⟨I,ae,h3,h4,fun e=>?_⟩;rcases ax k e with h6|h6
   ·exact h5 h6
   ·omega
 ·exact(O.below w.heap.size w (af _) (h.jm.trans (B3.mono ba))).setCell (p:=⟨gc,11,none⟩) h.lo.1 _
theorem TI.done {wr:World} {gc mb:Nat} 
  (h:TI w wr gc mb P ma mc sa sc f (cK S) S n Ab cb bs Fs) (hn:n=P.count) (hS:S.length=P.count) (pd:iZ wr P ma sa) (R:Nat->Prop) (hR:∀k,qP ma k\/qP sa k->R k) (O:∀k,qP ma k\/qP sa k->k<wr.heap.size)
  (ax:∀k,qP ma k\/qP sa k->k≠gc/\k≠mb/\(Value.slice Ab bs.length cb).ownBlock≠some k/\∀x,¬Fs x k)
  (fw:∀(x:Nat) (M:BM) (e:dn),S[x]?=some M->e∈M.I->f e.id=some (Iz (x:Int)))
  (bw:∀(id:Int) (v:Value),f id=some v->∃(x:Nat) (M:BM) (e:dn),S[x]?=some M/\e∈M.I/\e.id=id/\v= Iz (x:Int))
  (pr:∀(x k:Nat) (M:BM) (r:iQ),S[x]?=some M->r∈M.side k->P.fy x r.1=0) (cnt:cK S<=250):dR wr (qO w wr) R gc P S:=by
 refine⟨⟨ma,mc,sa,sc,Ab,cb,bs,Fs,mb,f⟩,⟨h.D,pd,ch h.row (aB _),by rw[h.len,hn],hS,h.bk,h.dj,fun x k J=>⟨?_,fun hr=>(ax k hr).2.2.2 x J⟩,fun k J=>?_,fun x k J=>(h.off x k J).2.1,O,h.mp,fw,bw,pr,cnt⟩,fun k J=>?_,fun x k J=>⟨(h.off x k J).1,(h.off x k J).2.1⟩,hR⟩
 ·obtain⟨_,_,h3,h4,h5⟩:=h.off x k J
  rintro(e|e|e)
  ·exact h3 e
  ·exact h4 e
  ·exact h5 e
 ·obtain⟨h1,h2,h3,_⟩:=ax k J
  rintro(e|e|e)
  ·exact h1 e
  ·exact h2 e
  ·exact h3 e
 ·rcases J with rfl|rfl|J
  ·exact⟨h.lo.1,h.D.lt⟩
  ·exact⟨h.lo.2,h.mp.lt⟩
  ·exact h.row.lt k J
theorem yO (s:Nat) (P:PD) (S:Sm) (G R:Nat->Prop) (w:World) (h:dR w G R s P S):
  Wz 56 #[Pz s] w fun e w'=> ∃s',e= .returned (Pz s')/\dR w' (qO w w') (fun k=>R k/\k<w.heap.size) s' P S/\Bz w w':=by
 obtain⟨C,hS,dS,dT,hR⟩:=h;have bR:=hS.D.lt;have d:∀u,aR w.drew u->(Cz u s 0 (.string (str P.code))/\Cz u s 1 (.slice C.ma P.E.length C.mc)/\Cz u s 2 (Iz P.tick)/\Cz u s 3 (Iz P.low)/\Cz u s 4 (Iz P.high)/\Cz u s 5 (Iz P.wide)/\
  u.cell? ⟨s,6,none⟩=some (Iz P.rule)/\Cz u s 7 (Iz P.top)/\Cz u s 8 (Iz P.least)/\Cz u s 9 (Iz P.part)/\Cz u s 10 (.slice C.sa P.settle.length C.sc)/\Cz u s 11 (.slice C.A C.bs.length C.c)/\Cz u s 12 (.map (some C.mb))):=fun u hu=>
  have a6:Bz w u:=(aS (aa _ _)).trans hu
  (hS.same (fun k I=>a6.block k (hS.Pt k I)) (fun y k I=>a6.block k (hS.NG y k I)) (fun k I=>a6.block k (hS.Ps k I)) a6.size).gX
 have d0:=fun u hu=>(d u hu).1;have d1:=fun u hu=>(d u hu).2.1;have d2:=fun u hu=>(d u hu).2.2.1;have d3:=fun u hu=>(d u hu).2.2.2.1;have d4:=fun u hu=>(d u hu).2.2.2.2.1;have d5:=fun u hu=>(d u hu).2.2.2.2.2.1;have d6:=fun u hu=>(d u hu).2.2.2.2.2.2.1;have d7:=fun u hu=>(d u hu).2.2.2.2.2.2.2.1;have d8:=fun u hu=>(d u hu).2.2.2.2.2.2.2.2.1;have d9:=fun u hu=>(d u hu).2.2.2.2.2.2.2.2.2.1;have cm:=fun u hu=>(d u hu).2.2.2.2.2.2.2.2.2.2.1;have cn:=fun u hu=>(d u hu).2.2.2.2.2.2.2.2.2.2.2.1;have ct:=fun u hu=>(d u hu).2.2.2.2.2.2.2.2.2.2.2.2;clear d;have O:=ao hS;clear hS
 go_enter Tryz.func56,Tryz.ntmps56
 go_upto_region 1 with(fail)
 refine Zg [8,10] [0,1,2,3,4,5,6,7,8,9,10,11] ?_;refine Yt ?_;clear d0 d1 d2 d3 d4 d5 d6 d7 d8 d9 cm cn ct;refine Ym fun K hK=>?_;refine(KI C.mb C.f (cK S) _ (O.mp.below (aS (aa _ _)))).mono ?_;rintro e w1⟨rfl,bh,b1⟩;refine Yo hK (b1) ?_;refine Yt ?_;refine Ym fun K hK=>?_;refine Yo hK (au (aa _ _) _) ?_;refine Yt ?_;refine aT ?_;obtain⟨k0,k1,k2,k3,k4,k5,k6,k7,k8,k9,cv,bU,cF⟩:=O.h.gX;obtain⟨mb,a7⟩:=Zn w.heap.size;rw[<-a7];obtain⟨w2,a8⟩:=Zn (w1.alloc (.cells #[.string (str P.code), .slice C.ma P.E.length C.mc,Iz P.tick,Iz P.low,Iz P.high,Iz P.wide,Iz P.rule,Iz P.top,Iz P.least,Iz P.part, .slice C.sa P.settle.length C.sc, .slice none 0 0, .map (some mb)] 132));obtain⟨gc,ba⟩:=Zn w1.heap.size;rw[<-ba,<-a8];have bp:=bh.lt;have B1:Bz w w1:=(aS (aa _ _)).trans b1;have bt:=Zw a8;have B2:Bz w w2:=dW B1 bt;have G2:aE w2 gc 132 (NF.cells ⟨C.ma,C.mc,C.sa,C.sc,none,0,[],fun _ _=>False,mb,C.f⟩ P):=a8▸ba▸heap_alloc_new _ _;have M2:fR w2 mb C.f (cK S):=a7▸bh.below bt;have I2:TI w w2 gc mb P C.ma C.mc C.sa C.sc C.f (cK S) S 0 none 0 [] (fun _ _=>False):=
  ⟨G2,aM _ _ _ _,M2,rfl,fun x b M h=>by simp at h,fun x y k h=>h.elim,fun x k h=>h.elim,⟨ba▸B1.size,a7▸af _⟩,B2⟩
 have q2:Cz w2 s 11 (.slice C.A C.bs.length C.c):=Yb B2 bR bU;have cH:=ao I2;obtain⟨N,eN⟩:=Zn C.bs.length;rw[<-eN] at q2;have dp:N<=21:=jE O.h.bn O.h.pd.right.cnt;obtain⟨HN,bV⟩:=dF eN B2;clear k0 k1 k2 k3 k4 k5 k6 k7 k8 k9 cv bU cF I2 M2 G2 eN a8 ba a7 bh b1 B1 bt B2 bp;go_wp2_with fail
 go_loopw [22] (fun v wr=> ∃(n:Nat) (Ab:Option Addr) (cb:Nat) (bs:List Nat) (Fs:Nat->Nat->Prop),n<=N/\v= Iz (n:Int)/\Hid (TI w wr gc mb P C.ma C.mc C.sa C.sc C.f (cK S) S n Ab cb bs Fs)) (fun v _=>N - (intOf v).toNat)
 case atStart=>exact⟨0,_,_,_,_,aB _,rfl,cH⟩
 case round=>
  obtain⟨n,Ab,cb,bs,Fs,hn,rfl,HI⟩:=hrel
  by_cases ax:n<N
  ·have b0:n<P.count:=by rw[<-O.h.bn,<-HN.h];exact ax
   obtain⟨b,M,hb,hM,b7⟩:=O.h.book b0;obtain⟨gA,hA,hp⟩:=mB O.ob hb;have ay:gA<w.heap.size:=(O.ob.lt gA (by rw[hA];rfl)).2;have hB:=HI.h.jm;have ea:Cz wr gA n (Pz b):=Yb hB ay hp;have i1:(n:Int)<N:=ae;have b8:=HI.h.D;have cQ:∀u,aI (fun k=>k=gc) wr.drew u->Cz u gc 11 (.slice Ab bs.length cb):=fun u hu=>(hu.cell (b:=gc) (i:=11) rfl).trans (b8.cell 11);obtain⟨cS,HM,b9,eb⟩:=mh (b7.below hB) hM ax ay;rw[hA];clear hb hM b7 hp hA b0 hn ax b8 ay hB
   go_upto_region 5 with(fail)
   refine bx (R:=aI fun k=>k=gc) 11 [6,7,8,11] [0,1,2,3,4,5,6,7,8,9,10,11] (by kernel_rfl) (aI.tr _) (aI.J _) (by kernel_rfl) (fun _ _ _ _ _ h=>h) ?_;refine Yt ?_;clear cQ;refine Ym fun K hK=>?_;refine(Pw b M (C.Fs n) _ (cS.below (aS (aa _ _)))).mono ?_;rintro e w2⟨b',rfl,cd,b2⟩;have ay:gc<wr.heap.size:=HI.D.lt;refine Yo hK ((fun k I=>by rw[show k=gc from I];exact b2.block gc ay)) ?_;have cf:=b2.size;have ck:wr.heap.size<=w2.heap.size:=cf;have bE:Bz wr w2:=(aS (aa _ _)).trans b2;refine Yt ?_;refine Ym fun K hK=>?_;refine Yo hK ((fun k I=>by rw[show k=gc from I];exact(au (aa w2.heap.size w2) _).block gc ae)) ?_;obtain⟨w3,bb⟩:=Zn (w2.alloc (.cells #[Pz b'] 133));have b3:=Zw bb;have C3:Cells w3 (some ⟨w2.heap.size,0,none⟩) [Pz b']:=bb▸Cells.lit w2 #[Pz b'] _;have cT:=b3.size;have a0:Bz wr w3:=dW bE b3;have a2:=bP HI.row a0;have hlen:bs.length<=21:=by
    have:=HI.h.len;have:=HN.h;have:=O.h.bn;have:=O.h.pd.right.cnt;omega
   have bH:=HI.h.jm.size;rw[<-bb];obtain⟨bV,cX,HR,c0⟩:=mh bE b3 a2 cd;clear bb b2 bE b3 cd;refine Zm fun K hK=>?_;refine fZ VU a2 (A:=some ⟨w2.heap.size,0,none⟩) (m:=1) (c:=1) (news:=[Pz b']) _ _ rfl rfl rfl rfl bT C3 (by intro u hu;simp at hu;subst hu;rfl) ae ae (bs.length+1) _ rfl rfl ?_;intro A' c' w6 a5;have bc:(Value.slice Ab bs.length cb).ownBlock≠some gc:=fun e=>by
    obtain⟨cur,hc⟩:=bY HR e;exact jY (HI.D.below a0) hc (by decide) rfl
   have k6:w6.heap[gc]?=w3.heap[gc]?:=a5.grown.block gc ae fun e=>bc e.symm;have c6:Cz w6 gc 11 (.slice Ab bs.length cb):=Yd k6 ((HI.D.below a0).cell 11);have z6:Fz w6 gc 11:=(aY (a:=⟨gc,11,none⟩) k6).trans ((HI.D.below a0).frozen 11);have cl:=ao a5;clear a5 C3 a2 a0 hlen cf ck cT bc;refine Yo hK ((fun k I=>by rw[show k=gc from I];exact k6)) ?_;refine Yt ?_;refine Zl fun K hK=>?_;go_simp;refine Yl hK ?_;refine aT ?_;have bf:=HI.h.push HM c0 bV cX cl;have HF:=ao bf;clear bf;go_wp2_with fail;go_roundw
   case rel=>
    have:=b9.h;exact⟨n+1,_,_,_,_,ae,by go_num,HF⟩
   case measure=>have:=b9.h;simp[intOf];omega
  ·have dc:n=N:=ae
   subst dc;have i1:¬((n:Int)<n):=ae;go_wp2_with fail;go_ret;have hI:=HI.h;have bH:=hI.jm.size;have bQ:∀k,C.ro k->k<w.heap.size:=fun k I=>O.Ps k I;refine⟨gc,rfl,?_,hI.jm⟩;refine hI.done (HN.h▸O.bn) O.sn (O.pd.same (fun k I ax=>hI.jm.block k ax) bH) _ (fun k I=>⟨hR k I,bQ k I⟩) (fun k I=>aA (bQ k I) bH) (fun k I=>?_) O.fw O.bw O.pr O.cnt;have ed:=bQ k I;refine⟨fun e=>cA hI.lo.1,fun e=>cA hI.lo.2,fun e=>cA ((hI.row.lt k e).1),fun x hx=>cA ((hI.off x k hx).1)⟩
theorem Tryz.Su:(Tryz.prog.info? 2).map (fun i=>(i.zero,i.size,i.bytes))=some (some (Iz 0),1,8):=by kernel_rfl
theorem sL:kA Tryz.prog 23 2 (Iz 0) 1 8:=
 ⟨Tryz.underlying23,let ⟨i,h,D,I,J⟩:=info_parts Tryz.Su;⟨i,h,D,I,J⟩,rfl,ae,ae⟩
def WI (B:Nat) (w1 wx:World) (g:Nat) (P:PD):Prop:=
 ∃ma mc sa sc,aE wx g 25 (P.cells ma mc sa sc)∧iZ wx P ma sa∧(∀k,qP ma k∨qP sa k→w1.heap.size≤k∧k<wx.heap.size)∧Below B w1 wx
theorem jA (l:List Int):∀u∈bZ l,u.oneCell'=true:=by
 intro u hu;unfold bZ at hu;obtain⟨x,_,rfl⟩:=aV.1 hu;rfl
theorem pj {base e:Nat} (h:w.ownsRow base e 1 (.slice A n c) n xs) (D:qP A k):base<=k/\k<w.heap.size:=by
 obtain⟨o,rfl⟩:=D;exact h.lt k rfl
theorem xZ {J:World} {A1:Option Addr} {c1 n1 n2:Nat} (hP:P.gZ) (hg:aE J g 25 (P.cells ma mc sa sc)) (ax:n1=P.E.length) (ay:n2=P.settle.length)
  (hb:Bz J u) (h1:u.ownsRow J.heap.size 3 1 (.slice A1 n1 c1) n1 (bZ P.E)) (h2:u.ownsRow J.heap.size 2 1 (.slice A2 n2 c2) n2 (bZ P.settle)) (hB:B<=g):
  WI B J ((u.setCell ⟨g,1,none⟩ (.slice A1 n1 c1)).setCell ⟨g,10,none⟩ (.slice A2 n2 c2)) g P:=by
 subst ax;subst ay;have a0:=hg.lt;have hs:=hb.size;have key:∀k,k≠g->((u.setCell ⟨g,1,none⟩ (.slice A1 P.E.length c1)).setCell ⟨g,10,none⟩ (.slice A2 P.settle.length c2)).heap[k]?=u.heap[k]?:=fun k D=>by
  rw[av _ _ _ _ D,av _ _ _ _ D]
 have I:((u.setCell ⟨g,1,none⟩ (.slice A1 P.E.length c1)).setCell ⟨g,10,none⟩ (.slice A2 P.settle.length c2)).heap.size=u.heap.size:=bT;refine⟨A1,c1,A2,c2,?_,⟨?_,?_,hP⟩,fun k D=>?_,?_⟩
 ·exact((hg.below hb).set 1 _).set 10 _
 ·refine(Cells.O h1).same (fun k D a2=>key k ?_) (I▸af _)
  have:=pj h1 D;omega
 ·refine(Cells.O h2).same (fun k D a2=>key k ?_) (I▸af _)
  have:=pj h2 D;omega
 ·rw[I]
  rcases D with D|D
  ·exact pj h1 D
  ·exact pj h2 D
 ·exact(((hb.mono (aF hB (po a0))).setCell (p:=⟨g,1,none⟩) hB _).setCell (p:=⟨g,10,none⟩) hB _)
theorem DL (h:B<=u.heap.size) (T:TypeId):(u.alloc (.cells #[] T)).ownsRow B T 1 (.slice (some ⟨u.heap.size,0,none⟩) 0 0) 0 []:=
 cI (base:=B) u #[] 0 h (aB _) rfl
theorem nZ {J:World} {c' m':Nat} (D:lJ u B T 1 x m' ys A' c' J) (h:u.ownsRow B T' 1 v n xs) (I:∀g,v.ownBlock=some g->x.ownBlock≠some g):J.ownsRow B T' 1 v n xs:=
 aX h fun g hg=>D.grown.block g (h.lt g hg).2 fun e=>I g hg e.symm
theorem oa {m:Nat} (h:u.ownsRow B T 1 v n xs) (J:u.ownsRow B T' 1 x m ys) (O:T≠T'):∀g,v.ownBlock=some g->x.ownBlock≠some g:=fun g hg e=>by
 obtain⟨cur,hc⟩:=bY h hg;obtain⟨I,D⟩:=bY J e;rw[hc] at D;injection D with D;injection D with _ h2 _;exact O h2
theorem PR (P:PD) (ma:Option Addr) (mc:Nat) (sa:Option Addr) (sc:Nat) (w:World) (h:iZ w P ma sa):
  Wz 36 #[P.val ma mc sa sc] w fun e w'=> ∃s',e= .returned (.tuple #[Pz s',Iz 0])/\dR w' (qO w w') (qO w w') s' P (Mk.new P).S/\Bz w w':=by
 have hP:=h.right;obtain⟨w0,ck⟩:=Zn (w.alloc (.cells (P.cells ma mc sa sc) 25));obtain⟨g,eg⟩:=Zn w.heap.size;have B0:=Zw ck;have D0:=Zq ck eg;have h0:=h.below B0;obtain⟨c0,c1,c2,c3,c4,c5,c6,c7,c8,c9,wJ⟩:=fM.gX (w:=w0) (g:=g) D0;obtain⟨H0,eK,ej,HP,EG⟩:=rU h0 D0 B0 hP eg;rw[PD.jt];clear h h0 D0 B0 hP
 go_enter Tryz.func36,Tryz.ntmps36
 go_upto_region 1 with(fail)
 rw[<-ck,<-eg];clear ck eg;go_wp2_with fail;refine(rC P ma mc sa sc w0 H0.h).mono ?_;rintro e O⟨rfl,b1⟩
 go_upto_region 4 with(fail)
 have D1:=eK.h.below b1;obtain⟨bH,ek⟩:=dF D1 b1;have el:g<O.heap.size:=D1.lt;have l1:∀u,Below O.heap.size O.drew u->Cz u g 1 (.slice ma P.E.length mc):=fun u hu=>(D1.below ((aS (aa _ _)).trans hu)).cell 1;have eo:∀u,Below O.heap.size O.drew u->Cz u g 10 (.slice sa P.settle.length sc):=fun u hu=>(D1.below ((aS (aa _ _)).trans hu)).cell 10;obtain⟨n1,bR⟩:=Zn P.E.length;obtain⟨n2,bU⟩:=Zn P.settle.length;rw[<-bR] at l1;rw[<-bU] at eo;have ep:(bZ P.E).length=n1*1:=by simp[bZ,bR]
 have er:(bZ P.settle).length=n2*1:=by simp[bZ,bU]
 have cQ:bZ P.E≠[]:=by intro e;have:=congrArg List.length e;have h2:=HP.h.n2;simp[bZ] at this;rw[this] at h2;simp at h2
 have cS:bZ P.settle≠[]:=by intro e;have:=congrArg List.length e;have h2:=HP.h.n2;have h3:=HP.h.vI;simp[bZ] at this;rw[this] at h3;simp at h3;omega
 have e3:n1<=6:=by rw[bR];exact HP.h.n6
 have dp:n2<=6:=by rw[bU,HP.h.vI];exact HP.h.n6
 have C1:Cells O ma (bZ P.E):=(H0.h.below b1).m;have C2:Cells O sa (bZ P.settle):=(H0.h.below b1).s;obtain⟨dS,dT,d2,d3,d4,d5,d6,d7⟩:=Dw ep er cQ cS C1 C2 bR bU;clear c0 c1 c2 c3 c4 c5 c6 c7 c8 c9 wJ D1 b1 ep er cQ cS C1 C2 bR bU
 go_cut [1] (fun s wx=>s= Pz g/\Hid (WI w.heap.size O wx g P))
 case first=>
  refine oM (R:=Below O.heap.size) 12 [9,10,11] (by kernel_rfl) (by kernel_rfl) ?_;refine kF [1,2,5,6] 8 (fun _ _ _ _ _ h=>h) (by kernel_rfl) (dH.J _ _) ?_;refine Yr ?_;clear l1 eo;obtain⟨u0,d8⟩:=Zn O.drew;have d9:Bz O u0:=by rw[d8];exact aS (aa _ _)
  have bQ:O.heap.size<=u0.heap.size:=d9.size;rw[<-d8];clear d8;refine dt [0,4] (dH.tr _) 7 (by kernel_rfl) ?_;refine dh (by rfl) (by rfl) (fun K hK=>?_) ?_
  ·go_simp
   refine Yo hK ((au (aa _ _) _).mono bQ) ?_;obtain⟨u1,ba⟩:=Zn (u0.alloc (.cells #[] 3));obtain⟨g0,bV⟩:=Zn u0.heap.size;have r1:=DL bQ 3;have ea:=Zw ba;rw[<-ba,<-bV] at r1⊢;clear ba bV;have bb:=d9.trans (ea.mono bQ);have a2:O.heap.size<=u1.heap.size:=bb.size;refine dt [3,4] (dH.tr _) 6 (by kernel_rfl) ?_;refine dh (by rfl) (by rfl) (fun K hK=>?_) ?_
   ·refine fZ sH r1 (A:=ma) (m:=n1) (c:=mc) (news:=bZ P.E) _ _ rfl rfl rfl dS.h d2.h (d4.h.below (bb.mono (bu rfl))) (jA _) (by omega) a2 n1 (bZ P.E) (by omega) (by simp) ?_
    intro A3 c3 u2 I;have a5:Below O.heap.size u1 u2:=I.below _ _ (af _) (aa _ _);have a0:=bb.trans a5;have bc:O.heap.size<=u2.heap.size:=a0.size;replace r1:=I.own;clear I;refine Yo hK (a5) ?_;refine kF [8] 5 (fun _ _ _ _ _ h=>h) (by kernel_rfl) (dH.J _ _) ?_;refine Yr ?_;refine dt [4] (dH.tr _) 4 (by kernel_rfl) ?_;refine dh (by rfl) (by rfl) (fun K hK=>?_) ?_
    ·go_simp
     refine Yo hK ((au (aa _ _) _).mono bc) ?_;obtain⟨u3,eb⟩:=Zn (u2.alloc (.cells #[] 2));obtain⟨g4,a6⟩:=Zn u2.heap.size;have r2:=DL bc 2;have a7:=Zw eb;rw[<-eb,<-a6] at r2⊢;clear eb a6;have ax:=a0.trans (a7.mono bc);have b0:O.heap.size<=u3.heap.size:=ax.size;replace r1:=bP r1 a7;refine dt [7] (dH.tr _) 3 (by kernel_rfl) ?_;refine dh (by rfl) (by rfl) (fun K hK=>?_) ?_
     ·refine fZ sL r2 (A:=sa) (m:=n2) (c:=sc) (news:=bZ P.settle) _ _ rfl rfl rfl dT.h d3.h (d5.h.below (ax.mono (bu rfl))) (jA _) (by omega) b0 n2 (bZ P.settle) (by omega) (by simp) ?_
      intro A7 c7 u4 I;have a8:Below O.heap.size u3 u4:=I.below _ _ (af _) (aa _ _);have ay:=ax.trans a8;have et:O.heap.size<=u4.heap.size:=ay.size;replace r1:=nZ I r1 (oa r1 r2 (by decide));replace r2:=I.own;clear I;refine Yo hK (a8) ?_;have G:=bH.h.below ay;have f1:Fz u4 g 1:=G.frozen 1;have eu:Fz u4 g 10:=G.frozen 10;have q1:Cz u4 g 1 (.slice ma P.E.length mc):=G.cell 1;have ew:Cz u4 g 10 (.slice sa P.settle.length sc):=G.cell 10;have fin:=xZ (B:=w.heap.size) HP.h bH.h d6.h d7.h ay r1 r2 (bu EG.h.symm);have b7:=ao fin;clear fin;refine dz 9 2 (by kernel_rfl) (by rfl) (by rfl) (fun K hK=>?_);go_simp;refine Yl hK ?_;refine dz 10 1 (by kernel_rfl) (by rfl) (by rfl) (fun K hK=>?_);go_simp;refine Yl hK ?_;refine dz 11 0 (by kernel_rfl) (by rfl) (by rfl) (fun K hK=>?_);go_simp;refine Yl hK ?_;refine mK (by kernel_rfl) ?_;go_wp2_with fail;go_meet;exact⟨rfl,b7⟩
     exact dJ
    exact dJ
   refine dh (by rfl) (by rfl) (fun K hK=>?_) ?_
   ·go_simp
    refine Yo hK ((au (aa _ _) _).mono a2) ?_;obtain⟨u2,bf⟩:=Zn (u1.alloc (.cells #[] 2));obtain⟨g4,a6⟩:=Zn u1.heap.size;have r2:=DL a2 2;have a5:=Zw bf;rw[<-bf,<-a6] at r2⊢;clear bf a6;have a0:=bb.trans (a5.mono a2);have bc:O.heap.size<=u2.heap.size:=a0.size;replace r1:=bP r1 a5;refine dt [3] (dH.tr _) 5 (by kernel_rfl) ?_;refine dh (by rfl) (by rfl) (fun K hK=>?_) ?_
    ·refine fZ sH r1 (A:=ma) (m:=n1) (c:=mc) (news:=bZ P.E) _ _ rfl rfl rfl dS.h d2.h (d4.h.below (a0.mono (bu rfl))) (jA _) (by omega) bc n1 (bZ P.E) (by omega) (by simp) ?_
     intro A3 c3 u3 I;have a7:Below O.heap.size u2 u3:=I.below _ _ (af _) (aa _ _);have ax:=a0.trans a7;have b0:O.heap.size<=u3.heap.size:=ax.size;replace r2:=nZ I r2 (oa r2 r1 (by decide));replace r1:=I.own;clear I;refine Yo hK (a7) ?_;refine kF [8] 4 (fun _ _ _ _ _ h=>h) (by kernel_rfl) (dH.J _ _) ?_;refine Yr ?_;refine dt [7] (dH.tr _) 3 (by kernel_rfl) ?_;refine dh (by rfl) (by rfl) (fun K hK=>?_) ?_
     ·refine fZ sL r2 (A:=sa) (m:=n2) (c:=sc) (news:=bZ P.settle) _ _ rfl rfl rfl dT.h d3.h (d5.h.below (ax.mono (bu rfl))) (jA _) (by omega) b0 n2 (bZ P.settle) (by omega) (by simp) ?_
      intro A7 c7 u4 I;have a8:Below O.heap.size u3 u4:=I.below _ _ (af _) (aa _ _);have ay:=ax.trans a8;have et:O.heap.size<=u4.heap.size:=ay.size;replace r1:=nZ I r1 (oa r1 r2 (by decide));replace r2:=I.own;clear I;refine Yo hK (a8) ?_;have G:=bH.h.below ay;have f1:Fz u4 g 1:=G.frozen 1;have eu:Fz u4 g 10:=G.frozen 10;have q1:Cz u4 g 1 (.slice ma P.E.length mc):=G.cell 1;have ew:Cz u4 g 10 (.slice sa P.settle.length sc):=G.cell 10;have fin:=xZ (B:=w.heap.size) HP.h bH.h d6.h d7.h ay r1 r2 (bu EG.h.symm);have b7:=ao fin;clear fin;refine dz 9 2 (by kernel_rfl) (by rfl) (by rfl) (fun K hK=>?_);go_simp;refine Yl hK ?_;refine dz 10 1 (by kernel_rfl) (by rfl) (by rfl) (fun K hK=>?_);go_simp;refine Yl hK ?_;refine dz 11 0 (by kernel_rfl) (by rfl) (by rfl) (fun K hK=>?_);go_simp;refine Yl hK ?_;refine mK (by kernel_rfl) ?_;go_wp2_with fail;go_meet;exact⟨rfl,b7⟩
     exact dJ
    exact dJ
   exact dJ
  refine dh (by rfl) (by rfl) (fun K hK=>?_) ?_
  ·go_simp
   refine Yo hK ((au (aa _ _) _).mono bQ) ?_;obtain⟨u1,ba⟩:=Zn (u0.alloc (.cells #[] 2));obtain⟨g4,a6⟩:=Zn u0.heap.size;have r2:=DL bQ 2;have ea:=Zw ba;rw[<-ba,<-a6] at r2⊢;clear ba a6;have bb:=d9.trans (ea.mono bQ);have a2:O.heap.size<=u1.heap.size:=bb.size;refine dt [0] (dH.tr _) 6 (by kernel_rfl) ?_;refine dh (by rfl) (by rfl) (fun K hK=>?_) ?_
   ·go_simp
    refine Yo hK ((au (aa _ _) _).mono a2) ?_;obtain⟨u2,bf⟩:=Zn (u1.alloc (.cells #[] 3));obtain⟨g0,bV⟩:=Zn u1.heap.size;have r1:=DL a2 3;have a5:=Zw bf;rw[<-bf,<-bV] at r1⊢;clear bf bV;have a0:=bb.trans (a5.mono a2);have bc:O.heap.size<=u2.heap.size:=a0.size;replace r2:=bP r2 a5;refine dt [3] (dH.tr _) 5 (by kernel_rfl) ?_;refine dh (by rfl) (by rfl) (fun K hK=>?_) ?_
    ·refine fZ sH r1 (A:=ma) (m:=n1) (c:=mc) (news:=bZ P.E) _ _ rfl rfl rfl dS.h d2.h (d4.h.below (a0.mono (bu rfl))) (jA _) (by omega) bc n1 (bZ P.E) (by omega) (by simp) ?_
     intro A3 c3 u3 I;have a7:Below O.heap.size u2 u3:=I.below _ _ (af _) (aa _ _);have ax:=a0.trans a7;have b0:O.heap.size<=u3.heap.size:=ax.size;replace r2:=nZ I r2 (oa r2 r1 (by decide));replace r1:=I.own;clear I;refine Yo hK (a7) ?_;refine kF [8] 4 (fun _ _ _ _ _ h=>h) (by kernel_rfl) (dH.J _ _) ?_;refine Yr ?_;refine dt [7] (dH.tr _) 3 (by kernel_rfl) ?_;refine dh (by rfl) (by rfl) (fun K hK=>?_) ?_
     ·refine fZ sL r2 (A:=sa) (m:=n2) (c:=sc) (news:=bZ P.settle) _ _ rfl rfl rfl dT.h d3.h (d5.h.below (ax.mono (bu rfl))) (jA _) (by omega) b0 n2 (bZ P.settle) (by omega) (by simp) ?_
      intro A7 c7 u4 I;have a8:Below O.heap.size u3 u4:=I.below _ _ (af _) (aa _ _);have ay:=ax.trans a8;have et:O.heap.size<=u4.heap.size:=ay.size;replace r1:=nZ I r1 (oa r1 r2 (by decide));replace r2:=I.own;clear I;refine Yo hK (a8) ?_;have G:=bH.h.below ay;have f1:Fz u4 g 1:=G.frozen 1;have eu:Fz u4 g 10:=G.frozen 10;have q1:Cz u4 g 1 (.slice ma P.E.length mc):=G.cell 1;have ew:Cz u4 g 10 (.slice sa P.settle.length sc):=G.cell 10;have fin:=xZ (B:=w.heap.size) HP.h bH.h d6.h d7.h ay r1 r2 (bu EG.h.symm);have b7:=ao fin;clear fin;refine dz 9 2 (by kernel_rfl) (by rfl) (by rfl) (fun K hK=>?_);go_simp;refine Yl hK ?_;refine dz 10 1 (by kernel_rfl) (by rfl) (by rfl) (fun K hK=>?_);go_simp;refine Yl hK ?_;refine dz 11 0 (by kernel_rfl) (by rfl) (by rfl) (fun K hK=>?_);go_simp;refine Yl hK ?_;refine mK (by kernel_rfl) ?_;go_wp2_with fail;go_meet;exact⟨rfl,b7⟩
     exact dJ
    exact dJ
   exact dJ
  exact dJ
 obtain⟨rfl,HT⟩:=hcut;obtain⟨bh,bp,bt,bE,D2,ey,ez,b2⟩:=HT.h;obtain⟨c0,c1,c2,c3,c4,c5,c6,c7,c8,c9,wJ⟩:=fM.gX (w:=wc) (g:=g) D2;obtain⟨eA,eL,cl,eM⟩:=mh ey ez b2 D2;clear ey ez b2 D2 HT;have eO:∀w:World,(Instr.makeMap 107 none).run Tryz.prog w= .ok (.map (some w.heap.size)) (w.alloc (.map #[] 0)):=fun _=>rfl
 go_upto_region 6 with(fail)
 obtain⟨mb,cm⟩:=Zn wc.heap.size;obtain⟨gc,cn⟩:=Zn (wc.heap.size+1);rw[<-cn,<-cm];obtain⟨w2,b8⟩:=Zn ((wc.alloc (.map #[] 0)).alloc (.cells #[.string (str P.code), .slice bh P.E.length bp,Iz P.tick,Iz P.low,Iz P.high,Iz P.wide,Iz P.rule,Iz P.top,Iz P.least,Iz P.part, .slice bt P.settle.length bE, .slice none 0 0, .map (some mb)] 132));rw[<-b8];have ct:Bz wc w2:=by rw[b8];exact au (au (aa _ _) _) _
 have G2:aE w2 gc 132 (NF.cells ⟨bh,bp,bt,bE,none,0,[],fun _ _=>False,mb,fun _=>none⟩ P):=by
  rw[b8,cn];have h:=heap_alloc_new (wc.alloc (.map #[] 0)) (.cells #[.string (str P.code), .slice bh P.E.length bp,Iz P.tick,Iz P.low,Iz P.high,Iz P.wide,Iz P.rule,Iz P.top,Iz P.least,Iz P.part, .slice bt P.settle.length bE, .slice none 0 0, .map (some mb)] 132);rw[cw] at h;exact h
 have M2:fR w2 mb (fun _=>none) 0:=by
  rw[cm,b8];exact(fR.new wc).below (au (aa _ _) _)
 have I2:TI wc w2 gc mb P bh bp bt bE (fun _=>none) 0 (Mk.new P).S 0 none 0 [] (fun _ _=>False):=
  ⟨G2,aM _ _ _ _,M2,rfl,fun x b M h=>by simp at h,fun x y k h=>h.elim,fun x k h=>h.elim,⟨by rw[cn];omega,by rw[cm];exact af _⟩,ct⟩
 obtain⟨k0,k1,k2,k3,k4,k5,k6,k7,k8,k9,eP⟩:=fM.gX (w:=w2) (g:=g) (eM.h.below ct);obtain⟨eB,eC⟩:=dF I2 ct;clear c0 c1 c2 c3 c4 c5 c6 c7 c8 c9 wJ I2 M2 G2 ct b8 cn cm eO;go_wp2_with fail;refine(pP P bh bp bt bE w2 (eA.h.below eC.h)).mono ?_;rintro e w3⟨rfl,b3⟩;obtain⟨N,eN⟩:=Zn P.count;have eW:N<=21:=by rw[eN];exact HP.h.cnt.1
 have HN:=ao eN;rw[<-eN];have I3:TI wc w3 gc mb P bh bp bt bE (fun _=>none) 0 (Mk.new P).S 0 none 0 [] (fun _ _=>False):=
  have hI:=eB.h
  ⟨hI.D.below b3,aM _ _ _ _,hI.mp.below b3,rfl,fun x b M h=>by simp at h,fun x y k h=>h.elim,fun x k h=>h.elim,hI.lo,dW hI.jm b3⟩
 have eQ:=ao I3;clear I3 b3 eB k0 k1 k2 k3 k4 k5 k6 k7 k8 k9 eP eN;go_wp2_with fail
 go_loopw [27] (fun v wr=> ∃(n:Nat) (Ab:Option Addr) (cb:Nat) (bs:List Nat) (Fs:Nat->Nat->Prop),n<=N/\v= Iz (n:Int)/\Hid (TI wc wr gc mb P bh bp bt bE (fun _=>none) 0 (Mk.new P).S n Ab cb bs Fs)) (fun v _=>N - (intOf v).toNat)
 case atStart=>exact⟨0,_,_,_,_,aB _,rfl,eQ⟩
 case round=>
  obtain⟨n,Ab,cb,bs,Fs,hn,rfl,HI⟩:=hrel
  by_cases cv:n<N
  ·have i1:(n:Int)<N:=by omega
   have eD:=HI.h.D;have eR:∀u,aI (fun k=>k=gc) wr.drew u->Cz u gc 11 (.slice Ab bs.length cb):=fun u hu=>(hu.cell (b:=gc) (i:=11) rfl).trans (eD.cell 11);have cF:=ao cv;clear hn cv eD
   go_upto_region 8 with(fail)
   refine bx (R:=aI fun k=>k=gc) 10 [5,6,7,10] [0,1,2,3,4,5,6,7,8,9,10] (by kernel_rfl) (aI.tr _) (aI.J _) (by kernel_rfl) (fun _ _ _ _ _ h=>h) ?_;refine Yt ?_;clear eR;refine Ym fun K hK=>?_;refine(Sd _).mono ?_;rintro e w2⟨b',rfl,dp,b2⟩;have el:gc<wr.heap.size:=HI.h.D.lt;refine Yo hK ((fun k hk=>by rw[show k=gc from hk];exact b2.block gc el)) ?_;have eE:=b2.size;have eF:wr.heap.size<=w2.heap.size:=eE;have ed:Bz wr w2:=(aS (aa _ _)).trans b2;refine Yt ?_;refine Ym fun K hK=>?_;refine Yo hK ((fun k hk=>by rw[show k=gc from hk];exact(au (aa w2.heap.size w2) _).block gc (by omega))) ?_;obtain⟨w3,cH⟩:=Zn (w2.alloc (.cells #[Pz b'] 133));have b3:=Zw cH;have C3:Cells w3 (some ⟨w2.heap.size,0,none⟩) [Pz b']:=by rw[cH];exact Cells.lit w2 #[Pz b'] _
   have eS:=b3.size;have b9:Bz wr w3:=dW ed b3;have cd:=bP HI.h.row b9;have hlen:bs.length<=21:=by
    have:=HI.h.len;have:=cF.h;omega
   have ef:=HI.h.jm.size;rw[<-cH];obtain⟨cl,eT,HR,eU⟩:=mh ed b3 cd dp;clear cH b2 ed b3 dp;refine Zm fun K hK=>?_;refine fZ VU cd (A:=some ⟨w2.heap.size,0,none⟩) (m:=1) (c:=1) (news:=[Pz b']) _ _ rfl rfl rfl rfl (by simp) C3 (by intro u hu;simp at hu;subst hu;rfl) (by omega) (by omega) (bs.length+1) _ rfl rfl ?_;intro A' c' w6 cf;have cT:(Value.slice Ab bs.length cb).ownBlock≠some gc:=fun e=>by
    obtain⟨cur,hc⟩:=bY HR.h e;exact jY (HI.h.D.below b9) hc (by decide) rfl
   have k6:w6.heap[gc]?=w3.heap[gc]?:=cf.grown.block gc (by omega) fun e=>cT e.symm;have c6:Cz w6 gc 11 (.slice Ab bs.length cb):=Yd k6 ((HI.h.D.below b9).cell 11);have z6:Fz w6 gc 11:=(aY (a:=⟨gc,11,none⟩) k6).trans ((HI.h.D.below b9).frozen 11);have eG:=ao cf;clear cf C3 cd b9 hlen eE eF eS cT;refine Yo hK ((fun k hk=>by rw[show k=gc from hk];exact k6)) ?_;refine Yt ?_;refine Zl fun K hK=>?_;go_simp;refine Yl hK ?_;refine aT ?_;have hM:(Mk.new P).S[n]?=some ⟨[],[]⟩:=by
    have h1:=cF.h;have h2:=HN.h;show(List.replicate P.count (⟨[],[]⟩:BM))[n]?=_;rw[gM,if_pos (by omega)]
   have cX:=HI.h.push hM eU.h cl.h eT.h eG.h;have HF:=ao cX;clear cX hM;go_wp2_with fail;go_roundw
   case rel=>
    have:=cF.h;exact⟨n+1,_,_,_,_,by omega,by go_num,HF⟩
   case measure=>have:=cF.h;simp[intOf];omega
  ·have eV:n=N:=by omega
   subst eV;have i1:¬((n:Int)<n):=by omega
   go_wp2_with fail
   go_ret2
   have hI:=HI.h;have ef:=hI.jm.size;have hS:(Mk.new P).S.length=P.count:=List.length_replicate ..;have hc:cK (Mk.new P).S=0:=by
    show((List.replicate P.count (⟨[],[]⟩:BM)).map _).sum=0;rw[List.map_replicate];show(List.replicate P.count 0).sum=0;exact List.sum_replicate_nat.trans (Nat.mul_zero _)
   have dc:∀(x:Nat) (M:BM),(Mk.new P).S[x]?=some M->M=⟨[],[]⟩:=fun x M h=>by
    have h':(List.replicate P.count (⟨[],[]⟩:BM))[x]?=some M:=h;rw[gM] at h'
    split at h'<;>simp at h'
    exact h'.symm
   have eI:w.heap.size<=w0.heap.size:=ej.h.size;have eY:w0.heap.size<=O.heap.size:=ek.h.size;have eZ:O.heap.size<=wc.heap.size:=cl.h.size;have e0:wc.heap.size<=wr.heap.size:=ef;have BB:Bz w wr:=((ej.h.trans (ek.h.mono eI)).trans cl.h).trans (hI.jm.mono (by omega));refine⟨gc,rfl,?_,BB⟩;have eJ:=hI;rw[<-hc] at eJ;have ei:=eL.h;have fin:=eJ.done HN.h hS (eA.h.same (fun k hk cv=>hI.jm.block k cv) ef) (qO w wr) (fun k hk=>by have:=ei k hk;exact⟨by omega,by omega⟩) (fun k hk=>by have:=ei k hk;omega) (fun k hk=>by
    have e4:=ei k hk;refine⟨fun e=>by have:=hI.lo.1;omega,fun e=>by have:=hI.lo.2;omega,fun e=>by have:=(hI.row.lt k e).1;omega,fun x hx=>by have:=(hI.off x k hx).1;omega⟩)
    (fun x M e h1 h2=>by rw[dc x M h1] at h2;exact absurd (show e∈([]:List dn) from h2) (by simp)) (fun id v h=>by cases h) (fun x k M r h1 h2=>by rw[dc x M h1] at h2;unfold BM.side at h2;split at h2<;>simp at h2) (by rw[hc];omega)
   exact fin.mono (fun k h1 h2=>⟨by have:=h1.1;omega,h1.2⟩) (fun k h=>h)
theorem JB:∀(L:List zJ),(∀y∈L,1<=y.st.aw)->0<=(L.map (·.st.aw)).sum
 |[],_=>bT
 |y::L,h=>by
  have:=JB L fun z D=>h z (bB _ D);have:=h y (cg ..);simp only[aW,cN];omega
theorem LY (s:Nat) (P:PD) (S:Sm) (G R:Nat->Prop) (x k:Nat) (sd ag aw:Int) (w:World) (h:dR w G R s P S) (hx:x<P.count) (hk:k<2) (J:sd=(k:Int)+1) (hq:1<=aw/\aw<=1000000):
  Wz 34 #[Pz s,Iz (x:Int),Iz sd,Iz ag,Iz aw] w fun e w'=>e= .returned (Iz (ng P S x k ag aw))/\Bz w w':=by
 have O:1<=sd/\sd<=2:=by omega
 obtain⟨H,ay⟩:=dF h J;clear h J
 go_enter Tryz.func34,Tryz.ntmps34
 go_wp2_with fail;refine(Fl s P S G R x sd aw w H.h hx O hq).mono ?_;rintro e u⟨rfl,rfl⟩;go_wp2_with fail;refine(yO s P S G R w H.h).mono ?_;rintro e w1⟨s',rfl,a0,b1⟩;go_wp2_with fail;refine(GF s' P S _ _ x k sd ag aw w1 a0 hx hk ay.h hq).mono ?_;rintro e w2⟨A,c,L,G',rfl,I⟩;have hb:Bz w w2:=b1.trans (I.lv.below (fun j hj=>hj.1) b1.size);have h0:=I.l0;have D:=I.sm;have ax:=JB L I.qs;obtain⟨left,el⟩:=Zn ((dV P aw.toNat S x k ag aw).2.2);have hc:ng P S x k ag aw=aw - left:=by rw[el];rfl
 rw[<-el];rw[<-el] at h0 D;obtain⟨HB,HT,HC⟩:=fY hb I hc;have a2:left<=1000000:=by omega
 clear I hb D ax el hc;go_wp2_with fail;go_ret;exact⟨by rw[HC.h];first|rfl|(rw[Yw ⟨by omega,hq.2⟩ ⟨h0,a2⟩]),HB.h⟩
theorem CK (s:Nat) (P:PD) (S:Sm) (G R:Nat->Prop) (x k:Nat) (sd ag aw:Int) (w:World) (h:dR w G R s P S) (hx:x<P.count) (hk:k<2) (bp:sd=(k:Int)+1) (hq:1<=aw/\aw<=1000000):
  Wz 69 #[Pz s,Iz (x:Int),Iz sd,Iz ag,Iz aw] w fun e w'=>e= .returned (.bool (lV P S x k ag aw))/\Bz w w':=by
 have bt:1<=sd/\sd<=2:=by omega
 obtain⟨H,bb⟩:=dF h bp;clear h bp
 go_enter Tryz.func69,Tryz.ntmps69
 go_wp2_with fail;refine(yO s P S G R w H.h).mono ?_;rintro e w1⟨s',rfl,bE,b1⟩;go_wp2_with fail;refine(GF s' P S _ _ x k sd ag aw w1 bE hx hk bb.h hq).mono ?_;rintro e I⟨A,c,L,G',rfl,hT⟩;have hb:Bz w I:=b1.trans (hT.lv.below (fun j hj=>hj.1) b1.size);have ay:=hT.st;obtain⟨res,J⟩:=Zn (dV P aw.toNat S x k ag aw);have a0:lV P S x k ag aw=(res.2.2 !=0 && (mG P.n (lU res.1) x (1 - k)).any fun q=>lp k ag q.ag):=by rw[J];rfl
 rw[<-J];rw[<-J] at ay;clear hT J bE b1;obtain⟨S2,bc⟩:=Zn res.1;obtain⟨left,el⟩:=Zn res.2.2;rw[<-el];rw[<-bc] at ay;rw[<-bc,<-el] at a0;have a8:=ao a0;clear bc el a0;have HB:=ao hb;clear hb
 by_cases hz:left=0
 ·subst hz
  clear ay;go_wp2_with fail;go_ret;exact⟨by rw[a8.h];rfl,HB.h⟩
 ·have bH:(left==0)=false:=by simpa using hz
  have bQ:(left !=0)=true:=by simpa using hz
  obtain⟨qs,eqs⟩:=Zn (mG P.n (lU S2) x (1 - k));have bR:lV P S x k ag aw=qs.any fun q=>lp k ag q.ag:=by rw[a8.h,bQ,Bool.true_and,eqs]
  have ck:qs.length<=1000:=by rw[eqs];have:=Cx P.n (lU S2) x (1 - k);have:=H.h.right.cnt;have:=H.h.right.n6;show _<=_;unfold PD.n at*;omega
  have bU:=ay;obtain⟨C,hS,dp,dS,hR⟩:=bU;have cl:s'<I.heap.size:=hS.D.lt;obtain⟨k0,k1,k2,k3,k4,k5,k6,k7,k8,k9,bV,cm,cn⟩:=hS.gX;have st:∀{u:World} {i:Nat} {v:Value},aR I.drew u->Cz I s' i v->Cz u s' i v:=fun {u i v} hu hv=>Yb hu cl hv;have d0:=fun u (hu:aR I.drew u)=>st hu k0;have d1:=fun u (hu:aR I.drew u)=>st hu k1;have d2:=fun u (hu:aR I.drew u)=>st hu k2;have d3:=fun u (hu:aR I.drew u)=>st hu k3;have d4:=fun u (hu:aR I.drew u)=>st hu k4;have d5:=fun u (hu:aR I.drew u)=>st hu k5;have d6:=fun u (hu:aR I.drew u)=>st hu k6;have d7:=fun u (hu:aR I.drew u)=>st hu k7;have d8:=fun u (hu:aR I.drew u)=>st hu k8;have d9:=fun u (hu:aR I.drew u)=>st hu k9;have ct:=fun u (hu:aR I.drew u)=>st hu bV;obtain⟨cv,cF,cH,dT,b0,cQ⟩:=FW ay hS.pd eqs bH bR hS.WD;clear ay hS st k0 k1 k2 k3 k4 k5 k6 k7 k8 k9 bV cm cn hz bQ eqs bR
  go_upto_region 5 with(fail)
  clear bH;refine Zg [5,8,9] [0,1,2,3,4,6,7,11,5,8,9,10] ?_;refine Yt ?_;clear d0 d1 d2 d3 d4 d5 d6 d7 d8 d9 ct;refine Ym fun K hK=>?_;refine(vr s' P S2 _ _ _ (cv.h.below (aS (aa _ _)))).mono ?_;rintro e w3⟨A1,c1,rfl,ba,b1⟩;refine Yo hK (b1) ?_;have cS:=ao (dP.O ba);have B3:Bz I w3:=(aS (aa _ _)).trans b1;have b7:=ao B3;clear b1 ba B3;refine Yt ?_;refine Ym fun K hK=>?_;refine(wV sd _ bt).mono ?_;rintro e u⟨rfl,rfl⟩;refine Yo hK (aa _ _) ?_;refine Yt ?_;refine Ym fun K hK=>?_;refine(NI P C.ma C.mc C.sa C.sc A1 c1 (lU S2) x (1 - k) (3 - sd) _ (cF.h.below b7.h) cS.h hx (by omega) (by have:=bb.h;omega) cQ.h).mono ?_;rintro e w4⟨A2,c2,rfl,a2,b2⟩;rw[<-cH.h] at a2⊢;refine Yo hK (b2) ?_;obtain⟨cT,b8⟩:=dF (dP.O a2) (dW b7.h b2);obtain⟨N,eN⟩:=Zn qs.length;rw[<-eN] at ck⊢;have HN:=ao eN;clear a2 b2 eN;refine Yt ?_;refine aT ?_;go_wp2_with fail
  go_loopw [40] (fun v wr=> ∃m:Nat,m<=N/\v= Iz (m:Int)/\Hid ((∀q∈qs.take m,lp k ag q.ag=false)/\Bz w4 wr)) (fun v _=>N - (intOf v).toNat)
  case atStart=>exact⟨0,aB _,rfl,ao ⟨fun q hq=>by simp at hq,aa _ _⟩⟩
  case round=>
   obtain⟨m,hm,rfl,HM⟩:=hrel;obtain⟨ax,hB⟩:=HM.h
   by_cases a6:m<N
   ·obtain⟨b',o',q,rfl,ea,c0,c1,c2,c3,c4,c5,hq⟩:=Cy (cT.h.below hB) (m:=m) (by rw[<-HN.h];exact a6)
    have i1:(m:Int)<N:=by omega
    obtain⟨a5,bf,b9⟩:=fY ax hB a6;clear ax hB HM a6 hm;go_wp2_with fail;obtain⟨wq,bh⟩:=Zn (wr.alloc (.cells #[Iz q.ag,Iz q.aw,Iz (q.i0:Int),Iz ((q.k0:Int)+1),Iz (q.i1:Int),Iz ((q.k1:Int)+1)] 178));have BQ:=Zw bh;have cd:=ao (dW bf.h BQ);rw[<-bh];clear bh BQ c0 c1 c2 c3 c4 c5;refine(Fk sd ag q.ag k wq hk bb.h).mono ?_;rintro e u⟨rfl,rfl⟩;obtain⟨z,ez⟩:=Zn (lp k ag q.ag);rw[<-ez]
    cases z
    ·have cX:=ao ez
     clear ez;go_wp2_with fail;go_roundw
     case rel=>
      refine⟨m+1,by have:=b9.h;omega,by go_num,ao ⟨fun q' cf=>?_,cd.h⟩⟩;rw[bC,hq.h] at cf;rcases aJ.1 cf with h1|h1
      ·exact a5.h q' h1
      ·have h2:q'=q:=by simpa using h1
       subst h2;exact cX.h.symm
     case measure=>have:=b9.h;simp[intOf];omega
    ·have a7:(qs.any fun q=>lp k ag q.ag)=true:=List.any_eq_true.2 ⟨q,aH hq.h,ez.symm⟩
     have dc:=ao a7;clear ez a7;go_wp2_with fail;go_ret;exact⟨by rw[b0.h,dc.h];rfl,HB.h.trans ((dW b8.h cd.h).mono HB.h.size)⟩
   ·obtain rfl:m=N:=by omega
    have i1:¬((m:Int)<m):=by omega
    obtain⟨a5,bf⟩:=dF ax hB;clear ax hB HM a6 hm;go_wp2_with fail;go_ret;have a7:(qs.any fun q=>lp k ag q.ag)=false:=by
     rw[List.any_eq_false];intro q hq;have:=a5.h q (by rw[HN.h,dE];exact hq);simp[this]
    exact⟨by rw[b0.h,a7];rfl,HB.h.trans ((dW b8.h bf.h).mono HB.h.size)⟩
theorem PD.UC (P:PD) (ma:Option Addr) (mc:Nat) (sa:Option Addr) (sc:Nat) (w:World):∃w0 g,w0=w.alloc (.cells (P.cells ma mc sa sc) 25)/\g=w.heap.size/\fM w0 g P ma mc sa sc/\Bz w w0:=by
 refine⟨_,_,rfl,rfl,?_,?_⟩
 ·exact heap_alloc_new _ _
 ·exact au (aa _ _) _
theorem JC (P:PD) (ma:Option Addr) (mc:Nat) (sa:Option Addr) (sc:Nat) (x:Nat) (ag:Int) (w:World) (h:iZ w P ma sa) (hx:x<P.count) (hn:P.n<=x) (hw:P.fy x ag=0):
  Wz 171 #[P.val ma mc sa sc,Iz (x:Int),Iz ag] w fun e w'=>e= .returned (.tuple #[Iz (lu P x ag).1,Iz (lu P x ag).2,Iz 0])/\Bz w w':=by
 have hP:=h.right;obtain⟨w0,g,ba,eg,D0,B0⟩:=PD.UC P ma mc sa sc w;have h0:=h.below B0;have a2:P.oY (x:Int) ag=0:=by
  unfold PD.oY;rw[if_neg ae,show(x:Int).toNat=x by simp];exact hw
 have a5:decide (P.n<=x)=true:=by simpa using hn
 have O:=BS P.n (by have:=hP.n6;unfold PD.n;omega) x (cA hP.cnt) hn hx;obtain⟨j,ej⟩:=Zn ((cy P.n x).2);have hj:j<P.settle.length:=by rw[ej,hP.vI];have:=O.2.1;unfold PD.n at this;exact this
 obtain⟨D,J⟩:∃D,P.settle[j]?=some D:=⟨_,aj hj⟩;have bb:P.settle.getD j 0=D:=by rw[jI,J];rfl
 have b9:=hP.KY D (aH J);have cd:=hP.I7;have cf:=hP.zl;have ck:=hP.ag hw;have I:lu P x ag=if (if P.high<D+ag then (P.high,P.high - ag) else (D+ag,D)).1<P.low then (P.low,P.low - ag) else (if P.high<D+ag then (P.high,P.high - ag) else (D+ag,D)):=by
  unfold lu;rw[<-ej,bb]
 obtain⟨m,n6,em⟩:∃m n6:Nat,m=P.E.length/\n6=P.settle.length:=⟨_,_,rfl,rfl⟩;obtain⟨p1,p2, -⟩:=ck;obtain⟨-,f1,f2⟩:=b9;have bc:=hP.lh;obtain⟨H0,bf,bh,bp,bt,EJ,ax,bE,HJ⟩:=QG h0 D0 B0 a2 a5 ej I J hj;obtain⟨hi,a6⟩:=Zn P.high;obtain⟨lo,a7⟩:=Zn P.low;rw[<-a6] at cf bc f2;rw[<-a7] at cd bc f1;obtain⟨ay,a0⟩:=dF a6 a7;rw[PD.jt];clear h h0 D0 B0 hP a2 a5 ej I J hj O bb a6 a7 hw hn em
 go_enter Tryz.func171,Tryz.ntmps171
 go_upto_region 1 with(fail)
 rw[<-ba,<-eg];clear ba eg;obtain⟨c0,c1,c2,c3,c4,c5,c6,c7,c8,c9,wJ⟩:=fM.gX bf;go_wp2_with fail;clear c0 c1 c2 c3 c4 c5 c6 c7 c8 c9 wJ;refine(rC P ma mc sa sc w0 H0).mono ?_;rintro e w1⟨rfl,b1⟩;obtain⟨bH,bQ,bR⟩:=fY (H0.below b1) (bf.below b1) (bh.trans (b1.mono bh.size));clear b1;obtain⟨c0,c1,c2,c3,c4,c5,c6,c7,c8,c9,wJ⟩:=fM.gX bQ;go_wp2_with fail;clear c0 c1 c2 c3 c4 c5 c6 c7 c8 c9 wJ;refine(rD P ma mc sa sc x w1 bH hx).mono ?_;rintro e w2⟨rfl,b2⟩;rw[bt.h,<-EJ.h];obtain⟨bU,bV,b0⟩:=fY (bH.below b2) (bQ.below b2) (bR.trans (b2.mono bR.size));clear b2;obtain⟨c0,c1,c2,c3,c4,c5,c6,c7,c8,c9,wJ⟩:=fM.gX bV;go_wp2_with fail;clear c0 c1 c2 c3 c4 c5 c6 c7 c8 c9 wJ;refine(pQ P ma mc sa sc (x:Int) ag w2 bU).mono ?_;rintro e w3⟨rfl,b3⟩;rw[bp.h];obtain⟨cl,cm,a8⟩:=fY (bU.below b3) (bV.below b3) (b0.trans (b3.mono b0.size));clear b3;obtain⟨c0,c1,c2,c3,c4,c5,c6,c7,c8,c9,wJ⟩:=fM.gX cm;rw[<-ay.h] at c4;rw[<-a0.h] at c3;obtain⟨b,o,fx,eA,hb,hc,b7⟩:=cl.h.s.jK (k:=j) HJ;obtain rfl:fx=D:=by have:=b7.h;rw[bE.h] at this;injection this with this;exact this.symm
 rw[eA] at wJ;obtain⟨n6,b8⟩:=Zn P.settle.length;have cn:(j:Int)<n6:=cA HJ.h;rw[<-b8] at wJ;clear b7 eA b8;have I:∀a b:Int,lu P x ag=(a,b)->(.tuple #[Iz (lu P x ag).1,Iz (lu P x ag).2,Iz 0]:Value)= .tuple #[Iz a,Iz b,Iz 0]:=fun a b h=>by rw[h]
 have HR:=ao I;clear I
 by_cases h1:hi<fx+ag
 ·by_cases h2:hi<lo
  ·omega
  ·have O:lu P x ag=(hi,hi - ag):=by
    rw[ax.h,<-ay.h,<-a0.h,if_pos h1];simp only;rw[if_neg h2]
   have HL:=ao O;clear O;go_wp2_with fail
   go_quiet (fail)
   go_wp2_with fail
   go_ret3
   exact⟨by rw[HL.h];rfl,below_drewN a8 _⟩
 ·by_cases h2:fx+ag<lo
  ·have O:lu P x ag=(lo,lo - ag):=by
    rw[ax.h,<-ay.h,<-a0.h,if_neg h1];simp only;rw[if_pos h2]
   have HL:=ao O;clear O;go_wp2_with fail
   go_quiet (fail)
   go_wp2_with fail
   go_ret3
   exact⟨by rw[HL.h];rfl,below_drewN a8 _⟩
  ·have O:lu P x ag=(fx+ag,fx):=by
    rw[ax.h,<-ay.h,<-a0.h,if_neg h1];simp only;rw[if_neg h2]
   have HL:=ao O;clear O;go_wp2_with fail
   go_ret3
   exact⟨by rw[HL.h];rfl,a8⟩
theorem Tryz.Sv:(Tryz.prog.info? 40).map (fun i=>(i.zero,i.size,i.bytes))=some (some (.agg #[Iz 0,Iz 0,Iz 0,Iz 0,Iz 0,Iz 0,Iz 0,Iz 0]),8,64):=by kernel_rfl
theorem yP:kA Tryz.prog 32 40 (.agg #[Iz 0,Iz 0,Iz 0,Iz 0,Iz 0,Iz 0,Iz 0,Iz 0]) 8 64:=
 ⟨Tryz.underlying32,let ⟨i,h,D,I,J⟩:=info_parts Tryz.Sv;⟨i,h,D,I,J⟩,rfl,ae,ae⟩
def ir.cells (r:ir):List Value:=[Iz r.kind,Iz r.id,Iz r.inst,Iz r.side,Iz r.ag,Iz r.aw,Iz r.left,Iz r.fy]
def ir.val (r:ir):Value:= .agg r.cells.toArray
theorem ir.bG (r:ir):r.cells.length=8:=rfl
def fC (l:List ir):List Value:=l.flatMap ir.cells
theorem iL (l:List ir):(fC l).length=l.length*8:=dX ir.bG l
theorem rJ (l m:List ir):fC (l++m)=fC l++fC m:=by simp[fC]
theorem x9 (l:List ir):∀u∈fC l,u.oneCell'=true:=tJ (fun f u hu=>by
 unfold ir.cells at hu;simp at hu;rcases hu with rfl|rfl|rfl|rfl|rfl|rfl|rfl|rfl<;>rfl) l
def lD (B:Nat) (w:World) (A:Option Addr) (c:Nat) (l:List ir):Prop:=w.ownsRow B 40 8 (.slice A l.length c) l.length (fC l)
def Ah (P:PD) (ma:Option Addr) (mc:Nat) (sa:Option Addr) (sc:Nat) (s ub:Nat):Array Value:=
 #[.string (str P.code), .slice ma P.E.length mc,Iz P.tick,Iz P.low,Iz P.high,Iz P.wide,Iz P.rule,Iz P.top,Iz P.least,Iz P.part, .slice sa P.settle.length sc, Pz s, .map (some ub)]
structure JD (w:World) (g:Nat) (P:PD) (ma:Option Addr) (mc:Nat) (sa:Option Addr) (sc:Nat) (s ub:Nat):Prop where
 D:aE w g 90 (Ah P ma mc sa sc s ub)
 pd:iZ w P ma sa
theorem JD.below (h:JD w g P ma mc sa sc s ub) (I:Bz w w'):JD w' g P ma mc sa sc s ub:=⟨h.D.below I,h.pd.below I⟩
theorem JD.drew (h:JD w g P ma mc sa sc s ub):JD w.drew g P ma mc sa sc s ub:=⟨h.D.drew,h.pd.drew⟩
theorem JD.cells (h:JD w g P ma mc sa sc s ub):
  w.cell? ⟨g,0,none⟩=some (.string (str P.code))/\w.cell? ⟨g,1,none⟩=some (.slice ma P.E.length mc)/\w.cell? ⟨g,2,none⟩=some (Iz P.tick)/\w.cell? ⟨g,3,none⟩=some (Iz P.low)/\w.cell? ⟨g,4,none⟩=some (Iz P.high)/\w.cell? ⟨g,5,none⟩=some (Iz P.wide)/\
  w.cell? ⟨g,6,none⟩=some (Iz P.rule)/\w.cell? ⟨g,7,none⟩=some (Iz P.top)/\w.cell? ⟨g,8,none⟩=some (Iz P.least)/\w.cell? ⟨g,9,none⟩=some (Iz P.part)/\w.cell? ⟨g,10,none⟩=some (.slice sa P.settle.length sc)/\w.cell? ⟨g,11,none⟩=some (Pz s)/\w.cell? ⟨g,12,none⟩=some (.map (some ub)):=
 ⟨h.D.cell 0,h.D.cell 1,h.D.cell 2,h.D.cell 3,h.D.cell 4,h.D.cell 5,h.D.cell 6,h.D.cell 7,h.D.cell 8,h.D.cell 9,h.D.cell 10,h.D.cell 11,h.D.cell 12⟩
theorem GI (c:bN) (fy:Int) (w:World):Wz 38 #[c.val,Iz fy] w fun e w'=> ∃A cp,e= .returned (.slice A 1 cp)/\lD w.heap.size w' A cp (mH c.id fy)/\Bz w w':=by
 rw[show c.val= .agg c.cells from rfl]
 go_enter Tryz.func38,Tryz.ntmps38
 go_upto_region 1 with(fail)
 obtain⟨w0,D⟩:=Zn (w.alloc (.cells c.cells 35));obtain⟨g,I⟩:=Zn w.heap.size;have J:kM w0 g c:=D▸I▸kM.new w c;have B0:=Zw D;have c1:Cz w0 g 1 (Iz c.id):=J.cell 1;rw[<-D,<-I];clear D I J;go_wp2_with fail;go_ret;refine⟨some ⟨w0.heap.size,0,none⟩,1,rfl,?_,au B0 _⟩;exact cI (base:=w.heap.size) (size:=8) w0 #[Iz 2,Iz c.id,Iz 0,Iz 0,Iz 0,Iz 0,Iz 0,Iz fy] 1 B0.size (by unfold maxLen;omega) rfl
theorem UD (g:Nat) (P:PD) (ma:Option Addr) (mc:Nat) (sa:Option Addr) (sc:Nat) (s ub:Nat) (x:Nat) (w:World) (h:JD w g P ma mc sa sc s ub) (hx:x<P.count):
  Wz 144 #[Pz g,Iz (x:Int)] w fun e w'=>e= .returned (.bool (decide (P.n<=x)))/\Bz w w':=by
 obtain⟨k0,k1,k2,k3,k4,k5,k6,k7,k8,k9,I,J,O⟩:=h.cells;have HP:=ao h.pd;obtain⟨b,D⟩:=Zn (decide (P.n<=x));have HB:=ao D;clear h;rw[<-D];clear D
 go_enter Tryz.func144,Tryz.ntmps144
 go_wp2_with fail;refine(rD P ma mc sa sc x w HP.h hx).mono ?_;rintro e w1⟨rfl,b1⟩;rw[<-HB.h];go_wp2_with fail;go_ret;exact⟨rfl,b1⟩
theorem JE (h:Cells w A (gW l)) {m:Nat} (hm:m<l.length):
  ∃b o q,A=some ⟨b,o,none⟩/\b<w.heap.size/\w.cell? ⟨b,o+m*6,none⟩=some (Iz q.id)/\w.cell? ⟨b,o+m*6+1,none⟩=some (Iz (q.inst:Int))/\w.cell? ⟨b,o+m*6+2,none⟩=some (Iz ((q.k:Int)+1))/\w.cell? ⟨b,o+m*6+3,none⟩=some (Iz q.ag)/\w.cell? ⟨b,o+m*6+4,none⟩=some (Iz q.aw)/\w.cell? ⟨b,o+m*6+5,none⟩=some (Iz q.left)/\Hid (l[m]?=some q):=by
 have I:=mr l;have D:gW l≠[]:=by intro e;rw[e] at I;simp at I;omega
 obtain⟨b,o,rfl,J,hc⟩:=h D;have hr:l[m]?=some l[m]:=aj hm;have key:∀(j:Nat) (v:Value),j<6->(l[m]).cells[j]?=some v->Cz w b (o+m*6+j) v:=fun j v O hv=>by
  rw[bg];exact hc _ _ ((ig fG.bG j O hr).trans hv)
 exact⟨b,o,l[m],rfl,J,key 0 _ ae rfl,key 1 _ ae rfl,key 2 _ ae rfl,key 3 _ ae rfl,key 4 _ ae rfl,key 5 _ ae rfl,hr⟩
structure sM (w:World) (g:Nat) (y:zJ):Prop where
 D:aE w g 186 y.cells.toArray
 fl:Cells w y.A (gW y.st.U)
theorem sM.below (h:sM w g y) (I:Bz w w'):sM w' g y:=⟨h.D.below I,h.fl.below I⟩
theorem sM.four (h:sM w g y):w.cell? ⟨g,0,none⟩=some (Iz y.st.ag)/\w.cell? ⟨g,1,none⟩=some (Iz y.st.aw)/\w.cell? ⟨g,2,none⟩=some (.bool y.st.imp)/\w.cell? ⟨g,3,none⟩=some (.slice y.A y.st.U.length y.c):=
 ⟨h.D.cell 0,h.D.cell 1,h.D.cell 2,h.D.cell 3⟩
theorem L9 {m:Nat} {f:fG} (hf:l[m]?=some f) (h:∀g∈l.take m,p g=false) (hp:p f=true):l.find? p=some f:=by
 induction l generalizing m with
 |nil=>simp at hf
 |cons a l D=>
  cases m with
  |zero=>simp at hf;subst hf;simp[hp]
  |succ m=>
   have I:=h a bT;rw[List.find?_cons,I];exact D (by simpa using hf) (fun g hg=>h g (by simp[hg]))
theorem Fv (g:Nat) (y:zJ) (x:Nat) (w:World) (h:sM w g y) (hx:x<100) (hl:y.st.U.length<=500):
  Wz 172 #[Iz (x:Int), Pz g] w fun e w'=>e= .returned (Iz (jq y.st.U y.st.ag x))/\Bz w w':=by
 obtain⟨k0,k1,k2,k3⟩:=h.four;obtain⟨HF,HH⟩:=dF h.fl h;have a7:g<w.heap.size:=h.D.lt;obtain⟨N,eN⟩:=Zn y.st.U.length;rw[<-eN] at hl k3;have HN:=ao eN;clear h eN
 go_enter Tryz.func172,Tryz.ntmps172
 go_wp2_with fail
 go_loopw [9] (fun v wr=> ∃m:Nat,m<=N/\v= Iz (m:Int)/\Hid ((∀f∈y.st.U.take m,(f.inst==x)=false)/\Bz w wr)) (fun v _=>N - (intOf v).toNat)
 case atStart=>exact⟨0,aB _,rfl,ao ⟨fun q hq=>by simp at hq,aa _ _⟩⟩
 case round=>
  obtain⟨m,hm,rfl,HM⟩:=hrel;obtain⟨J,hB⟩:=HM.h
  by_cases ay:m<N
  ·obtain⟨b',o',f,eA,ba,c0,c1,c2,c3,c4,c5,hf⟩:=JE (HF.below hB) (m:=m) (HN.h▸ay)
   have i1:(m:Int)<N:=ae;obtain⟨a2,a0,a5⟩:=fY J hB ay;rw[eA];clear J hB HM ay hm k0 k1 k2 k3 eA
   by_cases O:f.inst=x
   ·have i2:((f.inst:Int)==(x:Int))=true:=by rw[O];simp
    have I:jq y.st.U y.st.ag x=f.ag:=by
     unfold jq;rw[L9 hf.h a2.h (by simp[O])]
    have ax:=ao I;clear O I;go_wp2_with fail;go_ret;exact⟨by rw[ax.h];rfl,au a0 _⟩
   ·have i2:((f.inst:Int)==(x:Int))=false:=by simpa using fun h:(f.inst:Int)=x=>O ae
    have a8:=ao O;clear O;go_wp2_with fail;go_roundw
    case rel=>
     refine⟨m+1,cA a5.h,by go_num,ao ⟨fun q' a6=>?_,au a0 _⟩⟩;rw[bC,hf.h] at a6;rcases aJ.1 a6 with h1|h1
     ·exact a2 q' h1
     ·have h2:q'=f:=by simpa using h1
      subst h2;simpa using a8.h
    case measure=>have:=a5.h;simp[intOf];omega
  ·obtain rfl:m=N:=ae
   have i1:¬((m:Int)<m):=ae;have r0:Cz wr g 0 (Iz y.st.ag):=Yb hB a7 k0;have I:jq y.st.U y.st.ag x=y.st.ag:=by
    unfold jq;rw[DZ.2 (fun f hf=>by
     have:=J f (by rw[HN.h,dE];exact hf);simp[this])]
   obtain⟨a0,ax⟩:=dF hB I;clear J hB HM ay hm k0 k1 k2 k3 I;go_wp2_with fail;go_ret;exact⟨by rw[ax.h];rfl,a0⟩
theorem Ma (g:Nat) (P:PD) (ma:Option Addr) (mc:Nat) (sa:Option Addr) (sc:Nat) (s ub:Nat) (x:Nat) (y:zJ) (w:World) (h:JD w g P ma mc sa sc s ub) (hx:x<P.count) (hn:P.n<=x) (hy:y.st.imp=false->P.fy x y.st.ag=0) (hl:y.st.U.length<=500) (hf:Cells w y.A (gW y.st.U)):
  Wz 145 #[Pz g,Iz (x:Int), .agg y.cells.toArray] w fun e w'=>e= .returned (.tuple #[Iz (fg P x y.st).1,Iz (fg P x y.st).2])/\Bz w w':=by
 obtain⟨w0,O⟩:=Zn (w.alloc (.cells y.cells.toArray 186));obtain⟨g5,ax⟩:=Zn w.heap.size;have B0:=Zw O;have S0:sM w0 g5 y:=⟨by rw[O,ax];exact heap_alloc_new _ _,hf.below B0⟩;have h0:=h.below B0;have hP:=h.pd.right;have bc:=BS P.n (by have:=hP.n6;unfold PD.n;omega) x (by have:=hP.cnt;omega) hn hx;have ay:decide (P.n<=x)=true:=by simpa using hn
 obtain⟨ni,nj,a6,a7⟩:∃ni nj,ni=(cy P.n x).1/\nj=(cy P.n x).2:=⟨_,_,rfl,rfl⟩;have bR:P.n<=6:=hP.n6;have bp:ni<100:=by omega
 have bt:nj<100:=by omega
 cases J:y.st.imp with
 |false=>
  have a8:fg P x y.st=lu P x y.st.ag:=by unfold fg;rw[J];rfl
  rw[a8];obtain⟨k0,k1,k2,k3⟩:=S0.four;rw[J] at k2;obtain⟨H0,a0,HW,bf⟩:=mh h0 B0 (hy J) S0;have bE:g5<w0.heap.size:=S0.D.lt;obtain⟨m0,m1,m2,m3,m4,m5,m6,m7,m8,m9,a2,ba,bb⟩:=h0.cells;have I:g<w0.heap.size:=h0.D.lt;have st:∀{u:World} {b i:Nat} {v:Value},b<w0.heap.size->aR w0.drew u->Cz w0 b i v->Cz u b i v:=fun {u b i v} hb hu hv=>Yb hu hb hv;have d0:=fun u (hu:aR w0.drew u)=>st I hu m0;have d1:=fun u (hu:aR w0.drew u)=>st I hu m1;have d2:=fun u (hu:aR w0.drew u)=>st I hu m2;have d3:=fun u (hu:aR w0.drew u)=>st I hu m3;have d4:=fun u (hu:aR w0.drew u)=>st I hu m4;have d5:=fun u (hu:aR w0.drew u)=>st I hu m5;have d6:=fun u (hu:aR w0.drew u)=>st I hu m6;have d7:=fun u (hu:aR w0.drew u)=>st I hu m7;have d8:=fun u (hu:aR w0.drew u)=>st I hu m8;have d9:=fun u (hu:aR w0.drew u)=>st I hu m9;have bH:=fun u (hu:aR w0.drew u)=>st I hu a2;have e0:=fun u (hu:aR w0.drew u)=>st bE hu k0;clear h h0 B0 S0 hP bc J hy hf st m0 m1 m2 m3 m4 m5 m6 m7 m8 m9 a2 ba bb ay
  go_enter Tryz.func145,Tryz.ntmps145
  go_upto_region 1 with(fail)
  rw[<-O,<-ax];clear O ax
  go_upto_region 2 with(fail)
  clear k0 k1 k2 k3;refine Zg [7] [0,1,2,3,4,5,6,7,8,9,10,11,12,13,14] ?_;refine Yt ?_;clear d0 d1 d2 d3 d4 d5 d6 d7 d8 d9 bH e0;refine Ym fun K hK=>?_;refine(JC P ma mc sa sc x y.st.ag _ H0.h.drew.pd hx hn HW.h).mono ?_;rintro e w1⟨rfl,b1⟩;refine Yo hK (b1) ?_;have a5:=ao (a0.h.trans (((aS (aa _ _)).trans b1).mono a0.h.size));clear b1;refine Yt ?_;refine aT ?_;go_wp2_with fail
  go_ret2
  exact⟨rfl,a5.h⟩
 |true=>
  have a8:fg P x y.st=(jq y.st.U y.st.ag ni,jq y.st.U y.st.ag nj):=by unfold fg;rw[J,a6,a7];rfl
  rw[a8];obtain⟨k0,k1,k2,k3⟩:=S0.four;rw[J] at k2;obtain⟨H0,a0,bf,HD,HI,HJ⟩:=FW h0 B0 S0 ay a6 a7;obtain⟨m0,m1,m2,m3,m4,m5,m6,m7,m8,m9,a2,ba,bb⟩:=h0.cells;clear h h0 B0 S0 hP bc J hy hf ay a6 a7
  go_enter Tryz.func145,Tryz.ntmps145
  go_upto_region 1 with(fail)
  rw[<-O,<-ax];clear O ax;go_wp2_with fail;refine(rD P ma mc sa sc x w0 H0.h.pd hx).mono ?_;rintro e w1⟨rfl,b1⟩;rw[HD.h,<-HI.h,<-HJ.h];obtain⟨S1,a5⟩:=dF (bf.h.below b1) (a0.h.trans (b1.mono a0.h.size));clear b1 k0 k1 k2 k3 m0 m1 m2 m3 m4 m5 m6 m7 m8 m9 a2 ba bb;go_wp2_with fail;refine(Fv g5 y ni w1 S1.h bp hl).mono ?_;rintro e w2⟨rfl,b2⟩;obtain⟨S2,bh⟩:=dF (S1.h.below b2) (a5.h.trans (b2.mono a5.h.size));clear b2;go_wp2_with fail;refine(Fv g5 y nj w2 S2.h bt hl).mono ?_;rintro e w3⟨rfl,b3⟩;have bQ:=ao (bh.h.trans (b3.mono bh.h.size));clear b3;go_wp2_with fail
  go_ret2
  exact⟨rfl,bQ.h⟩
def ji:Array Value:=#[Iz 0,Iz 0,Iz 0,Iz 0,Iz 0,Iz 0,Iz 0,Iz 0]
theorem aE.eight {a b c d e f h i:Value} (H:aE w g T #[a,b,c,d,e,f,h,i]):(w.cell? ⟨g,0,none⟩=some a/\w.cell? ⟨g,1,none⟩=some b/\w.cell? ⟨g,2,none⟩=some c/\w.cell? ⟨g,3,none⟩=some d/\w.cell? ⟨g,4,none⟩=some e/\w.cell? ⟨g,5,none⟩=some f/\w.cell? ⟨g,6,none⟩=some h/\w.cell? ⟨g,7,none⟩=some i):=
 ⟨H.cell 0,H.cell 1,H.cell 2,H.cell 3,H.cell 4,H.cell 5,H.cell 6,H.cell 7⟩
theorem aE.GJ (H:aE w g T cs):(w.frozen? ⟨g,0,none⟩=false/\w.frozen? ⟨g,1,none⟩=false/\w.frozen? ⟨g,2,none⟩=false/\w.frozen? ⟨g,3,none⟩=false/\w.frozen? ⟨g,4,none⟩=false/\w.frozen? ⟨g,5,none⟩=false/\w.frozen? ⟨g,6,none⟩=false/\w.frozen? ⟨g,7,none⟩=false):=
 ⟨H.frozen 0,H.frozen 1,H.frozen 2,H.frozen 3,H.frozen 4,H.frozen 5,H.frozen 6,H.frozen 7⟩
theorem qH {i:Nat} (h:aE w k T cs) (D:k≠g):aE (fW w g i us) k T cs:=
 h.lv (AM (F:=fun j=>j=g) rfl (Lv.refl _ w)) D
theorem Mb (g:Nat) (P:PD) (ma:Option Addr) (mc:Nat) (sa:Option Addr) (sc:Nat) (s ub:Nat) (x:Nat) (r:ir) (O a7:Int) (w:World) (h:JD w g P ma mc sa sc s ub) (hr:r.inst=(x:Int)) (hx:x<P.count) (hn:P.n<=x) (hs:1<=r.side/\r.side<=2):
  Wz 146 #[Pz g,r.val,Iz O,Iz a7] w fun e w'=> ∃A c,e= .returned (.slice A 2 c)/\lD w.heap.size w' A c (nW P r O a7)/\Bz w w':=by
 obtain⟨r0,r1,r2,I,r4,r5,r6,r7⟩:=r;simp only at hr hs;subst hr;obtain⟨s1,s2⟩:=hs;obtain⟨w0,bQ⟩:=Zn (w.alloc (.cells #[Iz r0,Iz r1,Iz (x:Int),Iz I,Iz r4,Iz r5,Iz r6,Iz r7] 40));obtain⟨g5,b7⟩:=Zn w.heap.size;have B0:=Zw bQ;have D0:=Zq bQ b7;have h0:=h.below B0;have bU:decide (P.n<=x)=true:=by simpa using hn
 obtain⟨ni,nj,b8,b9⟩:∃ni nj,ni=(cy P.n x).1/\nj=(cy P.n x).2:=⟨_,_,rfl,rfl⟩;have bV:nW P ⟨r0,r1,(x:Int),I,r4,r5,r6,r7⟩ O a7=[⟨r0,r1,(ni:Int),I,O,r5,r6,r7⟩,⟨r0,r1,(nj:Int),3 - I,a7,r5,r6,r7⟩]:=by
  rw[b8,b9];unfold nW;simp only[mD]
 obtain⟨c0,c1,c2,c3,c4,c5,c6,c7⟩:=D0.eight;obtain⟨m0,m1,m2,m3,m4,m5,m6,m7,m8,m9,cH,ea,eb⟩:=h0.cells;have ed:g5<w0.heap.size:=D0.lt;have ay:g<w0.heap.size:=h0.D.lt;have st:∀{u:World} {b i:Nat} {v:Value},b<w0.heap.size->aR w0.drew u->Cz w0 b i v->Cz u b i v:=fun {u b i v} hb hu hv=>Yb hu hb hv;have d0:=fun u (hu:aR w0.drew u)=>st ay hu m0;have d1:=fun u (hu:aR w0.drew u)=>st ay hu m1;have d2:=fun u (hu:aR w0.drew u)=>st ay hu m2;have d3:=fun u (hu:aR w0.drew u)=>st ay hu m3;have d4:=fun u (hu:aR w0.drew u)=>st ay hu m4;have d5:=fun u (hu:aR w0.drew u)=>st ay hu m5;have d6:=fun u (hu:aR w0.drew u)=>st ay hu m6;have d7:=fun u (hu:aR w0.drew u)=>st ay hu m7;have d8:=fun u (hu:aR w0.drew u)=>st ay hu m8;have d9:=fun u (hu:aR w0.drew u)=>st ay hu m9;have ef:=fun u (hu:aR w0.drew u)=>st ay hu cH;have e2:=fun u (hu:aR w0.drew u)=>st ed hu c2;obtain⟨H0,cQ,eg,cS,HI,HJ,cT⟩:=yY h0 B0 D0 bU b8 b9 bV;rw[show(ir.val ⟨r0,r1,(x:Int),I,r4,r5,r6,r7⟩)= .agg #[Iz r0,Iz r1,Iz (x:Int),Iz I,Iz r4,Iz r5,Iz r6,Iz r7] from rfl];clear h h0 B0 D0 bU b8 b9 bV c0 c1 c2 c3 c4 c5 c6 c7 m0 m1 m2 m3 m4 m5 m6 m7 m8 m9 cH ea eb st hn
 go_enter Tryz.func146,Tryz.ntmps146
 go_upto_region 1 with(fail)
 rw[<-bQ,<-b7];clear bQ b7;refine Zg [6] [0,1,2,3,4,5,6,7,8,9,10,11,12,13] ?_;refine Yt ?_;clear d0 d1 d2 d3 d4 d5 d6 d7 d8 d9 ef e2;refine Ym fun K hK=>?_;refine(rD P ma mc sa sc x _ H0.drew.pd hx).mono ?_;rintro e w1⟨rfl,b1⟩;rw[cS.h,<-HI.h,<-HJ.h];refine Yo hK (b1) ?_;have cd:Bz w0 w1:=(aS (aa _ _)).trans b1;obtain⟨cX,cf⟩:=dF (cQ.trans (cd.mono cQ.size)) (eg.below cd);clear b1 cd;refine Yt ?_;refine aT ?_
 go_upto_region 2 with(fail)
 obtain⟨B,eB⟩:=Zn w1.heap.size;have bp:g5<B:=eB▸cf.lt;obtain⟨c0,c1,c2,c3,c4,c5,c6,c7⟩:=cf.h.eight;have st:∀{u:World} {i:Nat} {v:Value},Below B w1.drew u->Cz w1 g5 i v->Cz u g5 i v:=fun {u i v} hu hv=>Yb hu bp hv;have f0:=fun u (hu:Below B w1.drew u)=>st hu c0;have f1:=fun u (hu:Below B w1.drew u)=>st hu c1;have f2:=fun u (hu:Below B w1.drew u)=>st hu c2;have f3:=fun u (hu:Below B w1.drew u)=>st hu c3;have f4:=fun u (hu:Below B w1.drew u)=>st hu c4;have f5:=fun u (hu:Below B w1.drew u)=>st hu c5;have f6:=fun u (hu:Below B w1.drew u)=>st hu c6;have f7:=fun u (hu:Below B w1.drew u)=>st hu c7;clear st c0 c1 c2 c3 c4 c5 c6 c7;have dc:=ao eB;clear eB
 go_cut [12,13] (fun v v' wx=> ∃ga gb,v= Pz ga/\v'= Pz gb/\Hid (aE wx ga 40 #[Iz r0,Iz r1,Iz (x:Int),Iz I,Iz r4,Iz r5,Iz r6,Iz r7]/\aE wx gb 40 #[Iz r0,Iz r1,Iz (x:Int),Iz I,Iz r4,Iz r5,Iz r6,Iz r7]/\ga≠gb/\B<=ga/\B<=gb/\Below B w1 wx))
 case first=>
  refine Zy B 6 ?_;refine Zr [0,1] 4 ?_;refine Yr ?_;clear f0 f1 f2 f3 f4 f5 f6 f7;obtain⟨u0,bR⟩:=Zn w1.drew;have a2:u0.heap.size=B:=by rw[bR,dc.h];rfl
  have b0:Below B w1 u0:=bR▸(aa _ _).drew;rw[<-bR];clear bR;refine Zf [2,3] 3 ?_;refine Zo (fun K hK=>?_) ?_
  ·go_simp
   refine Yo hK (iV (aa _ _) (bu a2.symm) _) ?_;refine Zf [3] 2 ?_;refine Zo (fun K hK=>?_) ?_
   ·go_simp
    refine Yo hK (iV (aa _ _) (by rw[cw,a2];omega) _) ?_;obtain⟨u2,a0⟩:=Zn ((u0.alloc (.cells ji 40)).alloc (.cells ji 40));have bt:(u0.alloc (.cells ji 40)).heap.size=B+1:=by rw[cw,a2]
    have ZA:aE u2 B 40 ji:=a0▸a2▸(aE.new u0 _ _:aE (u0.alloc (.cells ji 40)) u0.heap.size 40 ji).below (au (aa _ _) _);have ZB:aE u2 (B+1) 40 ji:=a0▸bt▸aE.new _ _ _;have b2:Below B w1 u2:=a0▸(b0.alloc ae _).alloc ae _;rw[show(u0.alloc (.cells #[Iz 0,Iz 0,Iz 0,Iz 0,Iz 0,Iz 0,Iz 0,Iz 0] 40)).alloc (.cells #[Iz 0,Iz 0,Iz 0,Iz 0,Iz 0,Iz 0,Iz 0,Iz 0] 40)=u2 from a0.symm];obtain⟨ba,bb,ck⟩:=fY ZA ZB b2;have a5:B<=B:=ae;have a8:B<=B+1:=ae;have ax:(B:Nat)≠B+1:=ae;have YA:aE u2 (B) 40 ji:=by first|exact ba|exact bb
    have YB:aE u2 (B+1) 40 ji:=by first|exact ba|exact bb
    clear a0 bt ZA ZB b2 b0 a2 ba bb;have wa:=bO (us:=[Iz r0,Iz r1,Iz (x:Int),Iz I,Iz r4,Iz r5,Iz r6,Iz r7]) YA rfl;have a6:=qH (us:=[Iz r0,Iz r1,Iz (x:Int),Iz I,Iz r4,Iz r5,Iz r6,Iz r7]) (i:=0) YB (Ne.symm ax);have wb:=bO (us:=[Iz r0,Iz r1,Iz (x:Int),Iz I,Iz r4,Iz r5,Iz r6,Iz r7]) a6 rfl;have bc:=qH (us:=[Iz r0,Iz r1,Iz (x:Int),Iz I,Iz r4,Iz r5,Iz r6,Iz r7]) (i:=0) wa ax;have l1:=bA (us:=[Iz r0,Iz r1,Iz (x:Int),Iz I,Iz r4,Iz r5,Iz r6,Iz r7]) (i:=0) a5 (aa B u2);have l2:=bA (us:=[Iz r0,Iz r1,Iz (x:Int),Iz I,Iz r4,Iz r5,Iz r6,Iz r7]) (i:=0) a8 (aa B (fW u2 (B) 0 [Iz r0,Iz r1,Iz (x:Int),Iz I,Iz r4,Iz r5,Iz r6,Iz r7]));have lt:=ck.h.trans (l1.trans l2);obtain⟨z0,z1,z2,z3,z4,z5,z6,z7⟩:=YA.eight;obtain⟨y0,y1,y2,y3,y4,y5,y6,y7⟩:=YA.GJ;obtain⟨q0,q1,q2,q3,q4,q5,q6,q7⟩:=a6.eight;obtain⟨p0,p1,p2,p3,p4,p5,p6,p7⟩:=a6.GJ;simp only[fW] at wa bc wb l1 l2 lt q0 q1 q2 q3 q4 q5 q6 q7 p0 p1 p2 p3 p4 p5 p6 p7;obtain⟨cl,cm,cn,ct,cv⟩:=rU bc wb l1 l2 lt;clear wa bc wb l1 l2 lt YA YB a6;refine Zf [4] 1 ?_;refine Zo (fun K hK=>?_) ?_
    ·go_simp
     refine Yo hK (cn) ?_;clear z0 z1 z2 z3 z4 z5 z6 z7 y0 y1 y2 y3 y4 y5 y6 y7;refine Zf [5] 0 ?_;refine Zo (fun K hK=>?_) ?_
     ·go_simp
      refine Yo hK (ct) ?_;clear q0 q1 q2 q3 q4 q5 q6 q7 p0 p1 p2 p3 p4 p5 p6 p7;refine Ze ?_;go_wp2_with fail;go_meet;exact⟨B,B+1,rfl,rfl,ao ⟨cl,cm,ax,a5,a8,cv⟩⟩
     exact aQ
    exact aQ
   exact aQ
  refine Zo (fun K hK=>?_) ?_
  ·go_simp
   refine Yo hK (iV (aa _ _) (bu a2.symm) _) ?_;refine Zf [2] 2 ?_;refine Zo (fun K hK=>?_) ?_
   ·go_simp
    refine Yo hK (iV (aa _ _) (by rw[cw,a2];omega) _) ?_;obtain⟨u2,a0⟩:=Zn ((u0.alloc (.cells ji 40)).alloc (.cells ji 40));have bt:(u0.alloc (.cells ji 40)).heap.size=B+1:=by rw[cw,a2]
    have ZA:aE u2 B 40 ji:=a0▸a2▸(aE.new u0 _ _:aE (u0.alloc (.cells ji 40)) u0.heap.size 40 ji).below (au (aa _ _) _);have ZB:aE u2 (B+1) 40 ji:=a0▸bt▸aE.new _ _ _;have b2:Below B w1 u2:=a0▸(b0.alloc ae _).alloc ae _;rw[show(u0.alloc (.cells #[Iz 0,Iz 0,Iz 0,Iz 0,Iz 0,Iz 0,Iz 0,Iz 0] 40)).alloc (.cells #[Iz 0,Iz 0,Iz 0,Iz 0,Iz 0,Iz 0,Iz 0,Iz 0] 40)=u2 from a0.symm];obtain⟨ba,bb,ck⟩:=fY ZA ZB b2;have a5:B<=B+1:=ae;have a8:B<=B:=ae;have ax:(B+1:Nat)≠B:=ae;have YA:aE u2 (B+1) 40 ji:=by first|exact ba|exact bb
    have YB:aE u2 (B) 40 ji:=by first|exact ba|exact bb
    clear a0 bt ZA ZB b2 b0 a2 ba bb;have wa:=bO (us:=[Iz r0,Iz r1,Iz (x:Int),Iz I,Iz r4,Iz r5,Iz r6,Iz r7]) YA rfl;have a6:=qH (us:=[Iz r0,Iz r1,Iz (x:Int),Iz I,Iz r4,Iz r5,Iz r6,Iz r7]) (i:=0) YB (Ne.symm ax);have wb:=bO (us:=[Iz r0,Iz r1,Iz (x:Int),Iz I,Iz r4,Iz r5,Iz r6,Iz r7]) a6 rfl;have bc:=qH (us:=[Iz r0,Iz r1,Iz (x:Int),Iz I,Iz r4,Iz r5,Iz r6,Iz r7]) (i:=0) wa ax;have l1:=bA (us:=[Iz r0,Iz r1,Iz (x:Int),Iz I,Iz r4,Iz r5,Iz r6,Iz r7]) (i:=0) a5 (aa B u2);have l2:=bA (us:=[Iz r0,Iz r1,Iz (x:Int),Iz I,Iz r4,Iz r5,Iz r6,Iz r7]) (i:=0) a8 (aa B (fW u2 (B+1) 0 [Iz r0,Iz r1,Iz (x:Int),Iz I,Iz r4,Iz r5,Iz r6,Iz r7]));have lt:=ck.h.trans (l1.trans l2);obtain⟨z0,z1,z2,z3,z4,z5,z6,z7⟩:=YA.eight;obtain⟨y0,y1,y2,y3,y4,y5,y6,y7⟩:=YA.GJ;obtain⟨q0,q1,q2,q3,q4,q5,q6,q7⟩:=a6.eight;obtain⟨p0,p1,p2,p3,p4,p5,p6,p7⟩:=a6.GJ;simp only[fW] at wa bc wb l1 l2 lt q0 q1 q2 q3 q4 q5 q6 q7 p0 p1 p2 p3 p4 p5 p6 p7;obtain⟨cl,cm,cn,ct,cv⟩:=rU bc wb l1 l2 lt;clear wa bc wb l1 l2 lt YA YB a6;refine Zf [4] 1 ?_;refine Zo (fun K hK=>?_) ?_
    ·go_simp
     refine Yo hK (cn) ?_;clear z0 z1 z2 z3 z4 z5 z6 z7 y0 y1 y2 y3 y4 y5 y6 y7;refine Zf [5] 0 ?_;refine Zo (fun K hK=>?_) ?_
     ·go_simp
      refine Yo hK (ct) ?_;clear q0 q1 q2 q3 q4 q5 q6 q7 p0 p1 p2 p3 p4 p5 p6 p7;refine Ze ?_;go_wp2_with fail;go_meet;exact⟨B+1,B,rfl,rfl,ao ⟨cl,cm,ax,a5,a8,cv⟩⟩
     exact aQ
    exact aQ
   exact aQ
  exact aQ
 obtain⟨ga,gb,rfl,rfl,HX⟩:=hcut;obtain⟨A1,B1,ax,a5,a8,dp⟩:=HX.h;have x2:=A1.cell;have ei:=A1.frozen;obtain⟨w3,bE⟩:=Zn ((wc.setCell ⟨ga,2,none⟩ (Iz (ni:Int))).setCell ⟨ga,4,none⟩ (Iz O));have A3:aE w3 ga 40 #[Iz r0,Iz r1,Iz (ni:Int),Iz I,Iz O,Iz r5,Iz r6,Iz r7]:=bE▸(A1.set 2 (Iz (ni:Int))).set 4 (Iz O);have B3:aE w3 gb 40 #[Iz r0,Iz r1,Iz (x:Int),Iz I,Iz r4,Iz r5,Iz r6,Iz r7]:=bE▸B1.block (by rw[av _ _ _ _ (Ne.symm ax),av _ _ _ _ (Ne.symm ax)]);have b3:Below B w1 w3:=bE▸(dp.setCell (p:=⟨ga,2,none⟩) a5 _).setCell (p:=⟨ga,4,none⟩) a5 _;obtain⟨ej,bf,dS,cF,bh⟩:=rU A3 B3 b3 ax a8;clear HX A1 B1 ax a5 a8 dp A3 B3 b3;have er:IntKind.i64.wrap (3 - I)=3 - I:=aN _ ae
 go_upto_region 4 with(fail)
 rw[<-bE];clear bE x2 ei;have st:∀{u:World} {i:Nat} {v:Value},Below B w3.drew u->Cz w3 g5 i v->Cz u g5 i v:=fun {u i v} hu hv=>Yb hu bp hv;have k3:Cz w3 g5 3 (Iz I):=Yb dS bp (cf.cell 3);have f3:=fun u (hu:Below B w3.drew u)=>st hu k3;clear st k3;refine bx (R:=Below B) 99999 [6,8,10] [0,1,2,3,4,5,6,7,8,9,10] (by kernel_rfl) (dH.tr _) (dH.J _) (by kernel_rfl) (fun _ _ _ _ _ h=>h) ?_;refine Yt ?_;clear f3;have y2:Cz w3 gb 2 (Iz (x:Int)):=bf.cell 2;have ek:=bf.h.frozen;have y3:Cz w3 gb 3 (Iz I):=bf.cell 3;have el:=bf.h.frozen;have y4:Cz w3 gb 4 (Iz r4):=bf.cell 4;have eo:=bf.h.frozen;refine Ym fun K hK=>?_;refine Yo hK (mf (p:=⟨gb,2,none⟩) (aa _ _) bh _) ?_;refine Yt ?_;refine Ym fun K hK=>?_;refine Yo hK (mf (p:=⟨gb,3,none⟩) (aa _ _) bh _) ?_;refine Yt ?_;refine Ym fun K hK=>?_;refine Yo hK (mf (p:=⟨gb,4,none⟩) (aa _ _) bh _) ?_;refine Yt ?_;clear y2 ek y3 el;refine aT ?_;clear y4 eo;obtain⟨w4,bH⟩:=Zn ((((w3.setCell ⟨gb,2,none⟩ (Iz (nj:Int))).setCell ⟨gb,3,none⟩ (Iz (3 - I))).setCell ⟨gb,4,none⟩ (Iz a7)).drew);have B4:aE w4 gb 40 #[Iz r0,Iz r1,Iz (nj:Int),Iz (3 - I),Iz a7,Iz r5,Iz r6,Iz r7]:=bH▸(((bf.set 2 (Iz (nj:Int))).set 3 (Iz (3 - I))).set 4 (Iz a7)).drew;have A4:aE w4 ga 40 #[Iz r0,Iz r1,Iz (ni:Int),Iz I,Iz O,Iz r5,Iz r6,Iz r7]:=bH▸(ej.block (by rw[av _ _ _ _ cF.h,av _ _ _ _ cF.h,av _ _ _ _ cF.h])).drew;have b4:Below B w1 w4:=bH▸(((dS.setCell (p:=⟨gb,2,none⟩) bh _).setCell (p:=⟨gb,3,none⟩) bh _).setCell (p:=⟨gb,4,none⟩) bh _).drew;rw[<-bH];clear bH;obtain⟨c0,c1,c2,c3,c4,c5,c6,c7⟩:=A4.eight;obtain⟨v0,v1,v2,v3,v4,v5,v6,v7⟩:=B4.eight;have ep:=ao b4;clear A4 B4 b4;go_wp2_with fail;go_ret;have dT:Bz w w4:=cX.trans (ep.mono (dc.h▸cX.size));refine⟨some ⟨w4.heap.size,0,none⟩,2,rfl,?_,au dT _⟩;rw[cT.h];exact cI (base:=w.heap.size) (size:=8) w4 #[Iz r0,Iz r1,Iz (ni:Int),Iz I,Iz O,Iz r5,Iz r6,Iz r7,Iz r0,Iz r1,Iz (nj:Int),Iz (3 - I),Iz a7,Iz r5,Iz r6,Iz r7] 2 dT.size (by unfold maxLen;omega) rfl
structure oN (B:Nat) (w:World) (go:Nat) (L:List ir) (A:Option Addr) (c:Nat):Prop where
 D:aE w go 32 #[.slice A L.length c]
 row:lD B w A c L
 ge:B≤go
theorem oN.ne {L:List ir} (h:oN B w go L A c):(Value.slice A L.length c).ownBlock≠some go:=fun e=>by
 obtain⟨cur,hc⟩:=bY h.row e;exact jY h.D hc (by decide) rfl
theorem oN.below {L:List ir} (h:oN B w go L A c) (I:Bz w w'):oN B w' go L A c:=⟨h.D.below I,bP h.row I,h.ge⟩
theorem oN.more {L M:List ir} {c':Nat} (h:oN B w go L A c) (hn:n=L.length+M.length) (hr:w'.ownsRow B 40 8 (.slice A' n c') n (fC L++fC M)) (hg:w.grownBy w' (Value.slice A L.length c).ownBlock)
  (hl:(Value.slice A' n c').ownBlock=(Value.slice A L.length c).ownBlock\/∃k,(Value.slice A' n c').ownBlock=some k/\w.heap.size<=k):oN B (w'.setCell ⟨go,0,none⟩ (.slice A' n c')) go (L++M) A' c':=by
 have J:=h.D.lt;have O:n=(L++M).length:=by rw[hn,aC]
 subst O;have hb:=h.D.block (hg.block go J fun e=>h.ne e.symm);refine⟨hb.set 0 _,?_,h.ge⟩;unfold lD;rw[rJ];refine aX hr fun g I=>av _ _ _ _ fun e=>?_;have e':g=go:=e;subst e';rcases hl with h1|⟨k,h1,h2⟩
 ·rw[h1] at I;exact h.ne I
 ·rw[h1] at I;injection I with I;omega
theorem JF (h:r.inst.toNat<P.n):lz P st r=[r]:=by unfold lz;rw[if_pos h]
theorem GK (h:¬r.inst.toNat<P.n):lz P st r=[r]++nW P r (fg P r.inst.toNat st).1 (fg P r.inst.toNat st).2:=by unfold lz;rw[if_neg h];rfl
theorem JG (w0:World) (g:Nat) (P:PD) (ma:Option Addr) (mc:Nat) (sa:Option Addr) (sc:Nat) (s ub:Nat) (x:Nat) (y:zJ) (gm gx go:Nat) (L:List ir) (A:Option Addr) (c:Nat) (r:ir) (w:World)
  (h:JD w0 g P ma mc sa sc s ub) (hy:sM w0 gx y) (hm:w0.cell? ⟨gm,0,none⟩=some (.pointer (some ⟨g,0,none⟩))) (b8:gm<w0.heap.size) (hb:Below w0.heap.size w0 w) (T:oN w0.heap.size w go L A c)
  (hr:r.inst=(x:Int)) (hx:x<P.count) (hs:1<=r.side/\r.side<=2) (hw:y.st.imp=false->P.n<=x->P.fy x y.st.ag=0) (hf:y.st.U.length<=500) (hl:L.length<=100000):
  Calls Tryz.prog 143 #[r.val, .pointer (some ⟨go,0,none⟩), .pointer (some ⟨gm,0,none⟩), .pointer (some ⟨gx,0,none⟩)] w fun e w'=>e= .returned (.tuple #[])/\∃A' c',oN w0.heap.size w' go (L++lz P y.st r) A' c'/\Below w0.heap.size w0 w':=by
 obtain⟨r0,r1,r2,r3,r4,r5,r6,r7⟩:=r;simp only at hr hs;subst hr;obtain⟨B,eB⟩:=Zn w0.heap.size;rw[<-eB] at hb T⊢;obtain⟨w1,bE⟩:=Zn (w.alloc (.cells #[.int .i64 r0, .int .i64 r1, .int .i64 (x:Int), .int .i64 r3, .int .i64 r4, .int .i64 r5, .int .i64 r6, .int .i64 r7] 40));obtain⟨g4,cS⟩:=Zn w.heap.size;have b1:Below w.heap.size w w1:=by rw[bE];exact au (aa _ _) _
 have D1:aE w1 g4 40 #[.int .i64 r0, .int .i64 r1, .int .i64 (x:Int), .int .i64 r3, .int .i64 r4, .int .i64 r5, .int .i64 r6, .int .i64 r7]:=by rw[bE,cS];exact heap_alloc_new _ _
 have d5:B<=w.heap.size:=by rw[eB];exact hb.size
 have T1:=T.below b1;have d6:Below B w0 w1:=hb.trans (b1.mono d5);have b9:∀k,(Value.slice A L.length c).ownBlock=some k->k<w.heap.size:=fun k hk=>(T.row.lt k hk).2;obtain⟨c0,c1,c2,c3,c4,c5,c6,c7⟩:=D1.eight;obtain⟨N,eN⟩:=Zn L.length;have o0:w1.cell? ⟨go,0,none⟩=some (.slice A N c):=by rw[eN];exact T1.D.cell 0
 have d7:w1.ownsRow B 40 8 (.slice A N c) N (fC L):=by rw[eN];exact T1.row
 have d8:go<w1.heap.size:=T1.D.lt;have hN:N<=100000:=by omega
 have cd:(Value.slice A N c).ownBlock≠some go:=by rw[eN];exact T1.ne
 have cf:(Value.slice A N c).ownBlock≠some g4:=by rw[eN];exact fun e=>by have:=b9 _ e;omega
 have d9:=ao (show B<=w1.heap.size from aF d5 b1.size);have H:=ao h;have HY:=ao hy;have HM:=ao hm;have bH:=ao T1;have eE:=ao d6;have a6:=ao D1;have HN:=ao eN;have HR:=ao d7;have HW:=ao hw;have a0:=ao eB;have ck:=ao cd;have a7:=ao cf;have a8:=ao b8;rw[show(ir.val ⟨r0,r1,(x:Int),r3,r4,r5,r6,r7⟩)= .agg #[.int .i64 r0, .int .i64 r1, .int .i64 (x:Int), .int .i64 r3, .int .i64 r4, .int .i64 r5, .int .i64 r6, .int .i64 r7] from rfl];clear h hy hm hb T T1 d6 D1 eN d7 hw eB b1 b9 cd cf b8
 go_enter Tryz.func143,Tryz.ntmps143
 go_upto_region 1 with(fail)
 rw[<-bE,<-cS];clear bE cS
 go_upto_region 2 with(
       at_builtin
       refine dO yP HR.h #[.int .i64 r0, .int .i64 r1, .int .i64 (x:Int), .int .i64 r3, .int .i64 r4, .int .i64 r5, .int .i64 r6, .int .i64 r7] rfl _ _ rfl rfl rfl rfl (by intro u hu;simp at hu;rcases hu with rfl|rfl|rfl|rfl|rfl|rfl|rfl|rfl<;>rfl) (by omega) (by have:=d9.h;omega) ?_;intro A2 ax w2 cl g2 b2 l2;have k2:w2.heap[go]?=w1.heap[go]?:=g2.block go d8 fun e=>ck.h e.symm;have o2:w2.cell? ⟨go,0,none⟩=some (.slice A N c):=Yd k2 o0;have z2:w2.frozen? ⟨go,0,none⟩=false:=(aY (a:=⟨go,0,none⟩) k2).trans (bH.h.D.frozen 0);have K2:=ao k2;have cm:=ao cl;have cT:=ao g2;have ea:=ao b2;have I:=ao l2;clear k2 cl g2 b2 l2)
 have cX:=bH.h.more (M:=[⟨r0,r1,(x:Int),r3,r4,r5,r6,r7⟩]) (n:=N+1) (A':=A2) (c':=ax) (w':=w2) (by rw[HN.h];rfl) (by rw[show fC [⟨r0,r1,(x:Int),r3,r4,r5,r6,r7⟩]=#[.int .i64 r0, .int .i64 r1, .int .i64 (x:Int), .int .i64 r3, .int .i64 r4, .int .i64 r5, .int .i64 r6, .int .i64 r7].toList from rfl];exact cm.h) (by rw[<-HN.h];exact cT.h) (by
  rcases I.h with h1|h1
  ·exact .inl (by rw[<-HN.h];exact h1)
  ·exact .inr ⟨_,h1,by omega⟩)
 obtain⟨w3,bQ⟩:=Zn (w2.setCell ⟨go,0,none⟩ (.slice A2 (N+1) ax));rw[<-bQ] at cX⊢;have b3:Below B w0 w3:=by rw[bQ];exact(ea.h _ _ (af _) eE.h).setCell (p:=⟨go,0,none⟩) bH.h.ge _
 have cn:g4≠go:=jY bH.h.D a6.h (by decide);have D3:aE w3 g4 40 #[.int .i64 r0, .int .i64 r1, .int .i64 (x:Int), .int .i64 r3, .int .i64 r4, .int .i64 r5, .int .i64 r6, .int .i64 r7]:=by
  rw[bQ];exact a6.h.block ((av _ _ _ _ cn).trans (cT.h.block g4 a6.h.lt fun e=>a7.h e.symm))
 have bR:Below w0.heap.size w0 w3:=by rw[<-a0.h];exact b3
 have eF:=ao (H.h.below bR);have m3:w3.cell? ⟨gm,0,none⟩=some (.pointer (some ⟨g,0,none⟩)):=Yb bR a8.h HM.h;obtain⟨c0,c1,c2,c3,c4,c5,c6,c7⟩:=D3.eight;have eb:=ao cX;have ed:=ao b3;have eG:=ao D3;have ct:=ao bR;have eg:Hid ((Value.slice A2 (N+1) ax).ownBlock≠some g4):=ao fun e=>by
  rcases I.h with h1|h1
  ·rw[h1] at e;exact a7.h e
  ·rw[h1] at e;injection e with e;have:=a6.h.lt;omega
 clear cX b3 D3 bR bQ o0 d8 cn K2 cm cT ea I a6 HR ck a7 d9;go_wp2_with fail;refine(UD g P ma mc sa sc s ub x w3 eF.h hx).mono ?_;rintro e w4⟨rfl,b4⟩
 by_cases ba:P.n<=x
 ·have hd:decide (P.n<=x)=true:=by simpa using ba
  rw[hd];have B4:Below B w0 w4:=ed.h.trans (b4.mono (by rw[a0.h];exact ct.h.size));have bb:Below w0.heap.size w0 w4:=by rw[<-a0.h];exact B4
  have dc:=ao (eb.h.below b4);have ei:=ao (eG.h.below b4);have eI:=ao (H.h.below bb);have ej:=ao (HY.h.below bb);have m4:w4.cell? ⟨gm,0,none⟩=some (.pointer (some ⟨g,0,none⟩)):=Yb bb a8.h HM.h;obtain⟨y0,y1,y2,y3⟩:=ej.h.four;have dp:=ao B4;have ek:=ao bb;clear b4 B4 bb c0 c1 c2 c3 c4 c5 c6 c7 m3 hd;obtain⟨c0,c1,c2,c3,c4,c5,c6,c7⟩:=ei.h.eight;go_wp2_with fail;refine(Ma g P ma mc sa sc s ub x y w4 eI.h hx ba (fun h=>HW.h h ba) hf ej.h.fl).mono ?_;rintro e w5⟨rfl,b5⟩;obtain⟨a5,bU,en,ef⟩:∃a5 bU,a5=(fg P x y.st).1/\bU=(fg P x y.st).2:=⟨_,_,rfl,rfl⟩;rw[<-en,<-ef];have eJ:=ao en;have eK:=ao ef;have B5:Below B w0 w5:=dp.h.trans (b5.mono (by rw[a0.h];exact ek.h.size));have bc:Below w0.heap.size w0 w5:=by rw[<-a0.h];exact B5
  have T5:=dc.h.below b5;have D5:=ei.h.below b5;have eL:=ao (H.h.below bc);have m5:w5.cell? ⟨gm,0,none⟩=some (.pointer (some ⟨g,0,none⟩)):=Yb bc a8.h HM.h;clear b5 en ef c0 c1 c2 c3 c4 c5 c6 c7 m4 y0 y1 y2 y3;obtain⟨L2,bV⟩:=Zn (L++[(⟨r0,r1,(x:Int),r3,r4,r5,r6,r7⟩:ir)]);obtain⟨S6,dS⟩:=Zn (nW P ⟨r0,r1,(x:Int),r3,r4,r5,r6,r7⟩ a5 bU);have el:S6.length=2:=by rw[dS];rfl
  rw[<-bV] at T5;have dT:L2.length=N+1:=by rw[bV,aC,HN.h];rfl
  have eo:∀k,(∃cs T,w5.heap[k]?=some (.cells cs T (0,0))/\T≠40)->(Value.slice A2 L2.length ax).ownBlock≠some k:=fun k ⟨cs,T,h1,h2⟩ e=>by
   obtain⟨cur,hc⟩:=bY T5.row e;exact jY h1 hc h2 rfl
  obtain⟨Fs,bf⟩:=Zn (fun k=>k=go\/k=gm\/k=g4:Nat->Prop);have d2:Fs go:=by rw[bf];exact .inl rfl
  have ep:Fs gm:=by rw[bf];exact .inr (.inl rfl)
  have a2:Fs g4:=by rw[bf];exact .inr (.inr rfl)
  have o5:w5.cell? ⟨go,0,none⟩=some (.slice A2 (N+1) ax):=by rw[<-dT];exact T5.D.cell 0
  obtain⟨c0,c1,c2,c3,c4,c5,c6,c7⟩:=D5.eight;have n0:∀u,aI Fs w5.drew u->u.cell? ⟨go,0,none⟩=some (.slice A2 (N+1) ax):=fun u hu=>(hu.cell d2).trans o5;have n1:∀u,aI Fs w5.drew u->u.cell? ⟨gm,0,none⟩=some (.pointer (some ⟨g,0,none⟩)):=fun u hu=>(hu.cell ep).trans m5;have q0:∀u,aI Fs w5.drew u->u.cell? ⟨g4,0,none⟩=some (.int .i64 r0):=fun u hu=>(hu.cell a2).trans c0;have q1:∀u,aI Fs w5.drew u->u.cell? ⟨g4,1,none⟩=some (.int .i64 r1):=fun u hu=>(hu.cell a2).trans c1;have q2:∀u,aI Fs w5.drew u->u.cell? ⟨g4,2,none⟩=some (.int .i64 (x:Int)):=fun u hu=>(hu.cell a2).trans c2;have q3:∀u,aI Fs w5.drew u->u.cell? ⟨g4,3,none⟩=some (.int .i64 r3):=fun u hu=>(hu.cell a2).trans c3;have q4:∀u,aI Fs w5.drew u->u.cell? ⟨g4,4,none⟩=some (.int .i64 r4):=fun u hu=>(hu.cell a2).trans c4;have q5:∀u,aI Fs w5.drew u->u.cell? ⟨g4,5,none⟩=some (.int .i64 r5):=fun u hu=>(hu.cell a2).trans c5;have q6:∀u,aI Fs w5.drew u->u.cell? ⟨g4,6,none⟩=some (.int .i64 r6):=fun u hu=>(hu.cell a2).trans c6;have q7:∀u,aI Fs w5.drew u->u.cell? ⟨g4,7,none⟩=some (.int .i64 r7):=fun u hu=>(hu.cell a2).trans c7;have er:go<w5.heap.size/\gm<w5.heap.size/\g4<w5.heap.size:=⟨T5.D.lt,by have:=bc.size;have:=a8.h;omega,D5.lt⟩;have et:=ao er;have d3:=ao T5;have eR:=ao D5;have eu:=ao B5;have cv:=ao bc;have I:=ao dT;have ew:=ao dS;have bh:=ao el;have ey:=ao bV;have d4:=ao bf;have cF:=ao d2;have ez:=ao eo;clear er T5 D5 B5 bc dT dS el bV bf d2 ep a2 c0 c1 c2 c3 c4 c5 c6 c7 m5 o5 eo
  go_upto_region 4 with(fail)
  refine bx (R:=aI Fs) 7 [5,6,7] [0,1,2,3,4,5,6,7] (by kernel_rfl) (aI.tr _) (aI.J _) (by kernel_rfl) (fun _ _ _ _ _ h=>h) ?_;refine Yt ?_;clear n0 n1 q0 q1 q2 q3 q4 q5 q6 q7;refine Ym fun K hK=>?_;refine(Mb g P ma mc sa sc s ub x ⟨r0,r1,(x:Int),r3,r4,r5,r6,r7⟩ a5 bU _ eL.h.drew rfl hx ba hs).mono ?_;rintro e w6⟨A6,c6,rfl,bp,b6⟩;rw[<-ew.h] at bp;have bt:Below w5.heap.size w5 w6:=(aS (aa _ _)).trans b6;have eM:aI Fs w5.drew w6:=fun k hk=>by
   rw[d4.h] at hk;obtain⟨h1,h2,h3⟩:=et.h;rcases hk with rfl|rfl|rfl
   ·exact b6.block _ h1
   ·exact b6.block _ h2
   ·exact b6.block _ h3
  have T6:=d3.h.below bt;have B6:Below B w0 w6:=eu.h.trans (bt.mono (by rw[a0.h];exact cv.h.size));have C6:Cells w6 A6 (fC S6):=dP.O bp;have eA:∀k,Fs k->(Value.slice A2 L2.length ax).ownBlock≠some k:=fun k hk=>by
   rw[d4.h] at hk;rcases hk with rfl|rfl|rfl
   ·exact ez.h _ ⟨_,_,d3.h.D,by decide⟩
   ·exact fun e=>by have:=(d3.h.row.lt _ e).1;have:=a8.h;have:=a0.h;omega
   ·rw[I.h];exact eg.h
  have eO:=ao eM;refine Yo hK (eO.h) ?_;refine Yt ?_;refine Zm fun K hK=>?_;have eC:w6.ownsRow B 40 8 (.slice A2 (N+1) ax) (N+1) (fC L2):=by rw[<-I.h];exact T6.row
  refine fZ yP eC (A:=A6) (m:=2) (c:=c6) (news:=fC S6) _ _ rfl rfl rfl (by rw[iL,bh.h]) (by intro h0;have h1:=iL S6;rw[h0,bh.h] at h1;simp at h1) C6 (x9 S6) (by omega) (by have:=eu.h.size;have:=a0.h;have:=bt.size;have:=cv.h.size;omega) (N+1+2) _ rfl rfl ?_;intro A7 c7 w7 ay;have cH:∀k,Fs k->k<w6.heap.size:=fun k hk=>by
   have hs:=bt.size;rw[d4.h] at hk;obtain⟨h1,h2,h3⟩:=et.h;rcases hk with rfl|rfl|rfl<;>omega
  have b0:aI Fs w6 w7:=fun k hk=>ay.grown.block k (cH k hk) fun e=>eA k hk (by rw[I.h];exact e.symm);have o7:w7.cell? ⟨go,0,none⟩=some (.slice A2 (N+1) ax):=Yd (b0 go cF.h) (by rw[<-I.h];exact T6.D.cell 0);have z7:w7.frozen? ⟨go,0,none⟩=false:=(aY (a:=⟨go,0,none⟩) (b0 go cF.h)).trans (T6.D.frozen 0);have fin:=T6.more (M:=S6) (n:=N+1+2) (by rw[I.h,bh.h]) ay.own (by rw[I.h];exact ay.grown) (by
   rcases ay.jV with h1|h1
   ·exact .inl (by rw[I.h];exact h1)
   ·exact .inr ⟨_,h1,af _⟩)
  have b7:=(ay.below B w0 (af _) B6).setCell (p:=⟨go,0,none⟩) T6.ge (.slice A7 (N+1+2) c7);have eP:=ao b0;have eD:=ao fin;have eQ:=ao b7;clear b0 fin b7 cH ay T6 B6 C6 eA eC bt bp;refine Yo hK (eP.h) ?_;refine Yt ?_;refine Zl fun K hK=>?_;go_simp;refine Yl hK ?_;refine aT ?_;go_wp2_with fail
  go_end0
  refine⟨rfl,A7,c7,?_,eQ.h⟩;have cQ:=eD.h;rw[ey.h,bD,ew.h] at cQ;rw[GK (by simp only[mD];omega)];simp only[mD];rw[<-eJ.h,<-eK.h];exact cQ
 ·have hd:decide (P.n<=x)=false:=by simpa using ba
  rw[hd];have dc:=ao (eb.h.below b4);have dp:=ao (ed.h.trans (b4.mono (by rw[a0.h];exact ct.h.size)));clear b4 c0 c1 c2 c3 c4 c5 c6 c7 m3 hd;go_wp2_with fail
  go_end0
  refine⟨rfl,A2,ax,?_,dp.h⟩;rw[JF (by simp only[mD];omega)];exact dc.h
theorem Fw (P:PD) (st:jz) (r:ir):(lz P st r).length<=3:=by
 unfold lz
 split
 ·simp
 ·simp[nW]
theorem vv (P:PD) (st:jz):∀l:List fG,(l.flatMap fun f=>lz P st (oC f)).length<=3*l.length
 |[]=>bT
 |f::l=>by
  have D:=Fw P st (oC f);have I:=vv P st l;rw[bj,aC,bI];omega
theorem Sw (g:Nat) (P:PD) (ma:Option Addr) (mc:Nat) (sa:Option Addr) (sc:Nat) (s ub:Nat) (x k:Nat) (y:zJ) (c:bN) (left:Int) (w:World)
  (h:JD w g P ma mc sa sc s ub) (hf:Cells w y.A (gW y.st.U)) (ax:c.inst=(x:Int)) (ay:c.side=(k:Int)+1) (hx:x<P.count) (hk:k<2) (ho:GD P x k y.st):
  Wz 108 #[Pz g,c.val, .agg y.cells.toArray,Iz left] w fun e w'=> ∃A cp,e= .returned (.slice A (nH P c.id x k y.st left).length cp)/\lD w.heap.size w' A cp (nH P c.id x k y.st left)/\Bz w w':=by
 obtain⟨w0,O⟩:=Zn (((w.alloc (.cells #[Pz g] 28)).alloc (.cells c.cells 35)).alloc (.cells y.cells.toArray 186))
 go_enter Tryz.func108,Tryz.ntmps108
 rw[show c.val= .agg c.cells from rfl]
 go_upto_region 1 with(fail)
 rw[<-O];obtain⟨gm,ba⟩:=Zn w.heap.size;obtain⟨gc,a2⟩:=Zn (w.heap.size+1);obtain⟨gx,bc⟩:=Zn (w.heap.size+1+1);rw[<-bc,<-a2,<-ba];have q1:(w.alloc (.cells #[Pz g] 28)).heap.size=gc:=by rw[cw,a2]
 have q2:((w.alloc (.cells #[Pz g] 28)).alloc (.cells c.cells 35)).heap.size=gx:=by rw[cw,q1,bc,a2]
 have B0:Bz w w0:=O▸au (au (au (aa _ _) _) _) _;have DM:aE w0 gm 28 #[Pz g]:=O▸ba▸(aE.new w _ 28).below (au (au (aa _ _) _) _);have DC:kM w0 gc c:=O▸q1▸(kM.new _ c).below (au (aa _ _) _);have DX:aE w0 gx 186 y.cells.toArray:=O▸q2▸aE.new _ _ _;have h0:=h.below B0;have bf:sM w0 gx y:=⟨DX,hf.below B0⟩;have bU:Cz w0 gm 0 (Pz g):=DM.cell 0;have bV:=DM.lt;obtain⟨N,eN⟩:=Zn y.st.U.length;have b0:N<=500:=eN▸ho.len;obtain⟨go,a5⟩:=Zn w0.heap.size;obtain⟨w1,a6⟩:=Zn (w0.alloc (.cells #[.slice none 0 0] 32));have T1:oN w0.heap.size w1 go [] none 0:=⟨a6▸a5▸aE.new _ _ _,aM _ _ _ _,ae⟩;have B1:=Zw a6;have b2:=bf.below B1;obtain⟨y0,y1,y2,y3⟩:=b2.four;rw[<-eN] at y3;obtain⟨H,HY,HM,b7,cn,ct,bh,HC,HO,cv,cF,HN,cS⟩:=QO h0 bf bU bV T1 B1 B0 DC ho ax ay eN a5;clear h h0 bf bU bV T1 B1 B0 DC DM DX ho ax ay eN hf b2 q1 q2 O ba a2 bc
 go_upto_region 2 with(fail)
 rw[<-a6,<-a5];clear a6 a5;go_wp2_with fail
 go_loopw [17] (fun v wr=> ∃m:Nat,m<=N/\v= Iz (m:Int)/\Hid (∃A cp,oN w0.heap.size wr go ((y.st.U.take m).flatMap fun f=>lz P y.st (oC f)) A cp/\Bz w0 wr)) (fun v _=>N - (intOf v).toNat)
 case atStart=>exact⟨0,aB _,rfl,ao ⟨none,0,cn,ct⟩⟩
 case round=>
  obtain⟨m,hm,rfl,HR⟩:=hrel;obtain⟨A,cp,T,hB⟩:=HR.h
  by_cases a7:m<N
  ·obtain⟨b',o',f,eA,cT,c0,c1,c2,c3,c4,c5,b8⟩:=JE ((HY.below hB).fl) (m:=m) (HN.h▸a7)
   have i1:(m:Int)<N:=ae;have I:f∈y.st.U:=aH b8.h;obtain⟨cH,cX⟩:=HO.h.inst f I;obtain⟨HT,a8,b9,cQ⟩:=mh T hB a7 I;rw[eA];clear T hB HR a7 hm y0 y1 y2 y3 eA I;go_wp2_with fail;have hlen:=vv P y.st (y.st.U.take m);have cd:(y.st.U.take m).length<=N:=by rw[bJ];have:=HN.h;omega
   obtain⟨wb,bp⟩:=Zn (wr.alloc (.cells #[Iz f.id,Iz (f.inst:Int),Iz ((f.k:Int)+1),Iz f.ag,Iz f.aw,Iz f.left] 240));have bb:=Zw bp;rw[<-bp];refine(JG w0 g P ma mc sa sc s ub f.inst y gm gx go _ A cp (oC f) wb H HY HM b7 (a8.trans (bb.mono a8.size)) (HT.below bb) rfl cH ⟨by show(1:Int)<=(f.k:Int)+1;omega,by show(f.k:Int)+1<=2;omega⟩ (fun cf hn=>by rw[HO.h.real cf f cQ.h];exact HO.fy) (HN.h▸b0) ae).mono ?_;rintro e w'⟨rfl,A',c',J,a0⟩;obtain⟨bt,bE⟩:=dF J a0;clear J a0 bp bb hlen cd c0 c1 c2 c3 c4 c5;go_wp2_with fail;go_roundw
   case rel=>
    refine⟨m+1,cA b9.h,by go_num,ao ⟨A',c',?_,bE⟩⟩;rw[bC,b8.h,rR];have:=bt.h;simpa using this
   case measure=>have:=b9.h;simp[intOf];omega
  ·obtain rfl:m=N:=ae
   have i1:¬((m:Int)<m):=ae;rw[HN.h,dE] at T;have hC:=HC.h.below hB;have ck:=HY.h.below hB;obtain⟨k1,n1,bH,bQ,p1,q1,l1,t1,dc⟩:=c;obtain⟨d0,d1,d2,d3,d4,d5,d6,d7,d8⟩:=hC.reads;have ax:bH=(x:Int):=cv;have ay:bQ=(k:Int)+1:=cF;rw[ax] at d2;rw[ay] at d3;obtain⟨z0,z1,z2,z3⟩:=ck.four;obtain⟨HT,a8⟩:=dF T hB;clear T hB HR a7 hm y0 y1 y2 y3 hC ck d0 d4 d5 d6 d7 d8 z2 z3 ax ay;go_wp2_with fail;have hlen:=vv P y.st y.st.U;refine(JG w0 g P ma mc sa sc s ub x y gm gx go _ A cp ⟨3,n1,(x:Int),(k:Int)+1,y.st.ag,y.st.aw,left,0⟩ wr H HY HM b7 a8 HT rfl hx ⟨by show(1:Int)<=(k:Int)+1;omega,by show(k:Int)+1<=2;omega⟩ (fun cf hn=>HO.fy) (HN.h▸b0) (cA HN.h)).mono ?_;rintro e w'⟨rfl,A',c',J,a0⟩;have o9:=J.D.cell 0;obtain⟨LL,bR⟩:=Zn (nH P n1 x k y.st left);have cl:(y.st.U.flatMap fun f=>lz P y.st (oC f))++lz P y.st ⟨3,n1,(x:Int),(k:Int)+1,y.st.ag,y.st.aw,left,0⟩=LL:=by rw[bR];rfl
   rw[cl] at J o9;have dp:Cz w' go 0 (.slice A' LL.length c'):=o9;obtain⟨bt,bE,cm⟩:=fY J a0 bR;clear J a0 hlen d1 d2 d3 z0 z1 o9 bR cl;go_wp2_with fail;go_ret;refine⟨A',c',by rw[<-cm.h];rfl,?_,bh.trans (bE.mono bh.size)⟩;rw[<-cm.h];exact ch bt.row bh.size
def sY (u:Int→Bool) (id:Int):Option Value:=if u id=true then some (.bool true) else none
structure zt where
 ma:Option Addr
 mc:Nat
 sa:Option Addr
 sc:Nat
 s:Nat
 ub:Nat
variable {C:zt}
structure jW (w:World) (Gs R:Nat→Prop) (g:Nat) (P:PD) (m:Mk) (C:zt):Prop where
 b:JD w g P C.ma C.mc C.sa C.sc C.s C.ub
 st:dR w Gs R C.s P m.S
 us:fR w C.ub (sY m.used) m.un
 gl:∀k,Gs k→k<w.heap.size
 rl:∀k,R k→k<w.heap.size
 sep:∀k,Gs k→k≠g∧k≠C.ub∧¬R k
 gu:g≠C.ub
 ro:∀k,qP C.ma k∨qP C.sa k→R k
 rg:¬R g∧¬R C.ub
 su:∀id,fI m.S id→m.used id=true
theorem JD.same (h:JD w g P ma mc sa sc s ub) (hg:w'.heap[g]?=w.heap[g]?) (hr:∀k,qP ma k\/qP sa k->k<w.heap.size->w'.heap[k]?=w.heap[k]?) (hs:w.heap.size<=w'.heap.size):JD w' g P ma mc sa sc s ub:=
 ⟨h.D.block hg,h.pd.same hr hs⟩
theorem jW.below (h:jW w Gs R g P m C) (D:Bz w w'):jW w' Gs R g P m C:=
 ⟨h.b.below D,h.st.below D,h.us.below D,fun k I=>aA (h.gl k I) D.size,fun k I=>aA (h.rl k I) D.size,h.sep,h.gu,h.ro,h.rg,h.su⟩
theorem jW.state {Gs':Nat->Prop} (h:jW w Gs R g P m C) {S':Sm} (ax:dR w' Gs' R C.s P S') (hl:Lv Gs w w') (O:∀j,Gs' j->Gs j\/qO w w' j) (ay:∀id,fI S' id->m.used id=true):jW w' Gs' R g P {m with S:=S'} C:=by
 have a0:=h.b.D.lt;have a2:=h.us.lt;have hs:=hl.size;have nG:∀k,k=g\/k=C.ub\/R k->¬Gs k:=fun k J hg=>by
  obtain⟨I,h2,h3⟩:=h.sep k hg;rcases J with e|e|e
  ·exact I e
  ·exact h2 e
  ·exact h3 e
 refine⟨h.b.same (hl.block g a0 (nG g (.inl rfl))) (fun k J a5=>hl.block k a5 (nG k (.inr (.inr (h.ro k J))))) hs,ax,h.us.block (hl.block _ a2 (nG _ (.inr (.inl rfl)))),fun k J=>?_,fun k J=>aA (h.rl k J) hs,fun k J=>?_,h.gu,h.ro,h.rg,ay⟩
 ·rcases O k J with I|I
  ·exact aA (h.gl k I) hs
  ·exact I.2
 ·rcases O k J with I|I
  ·exact h.sep k I
  ·exact⟨fun e=>cA I.1,fun e=>cA I.1,fun e=>jE (h.rl k e) I.1⟩
theorem jW.use (h:jW w Gs R g P m C) (id:Int) (hu:fR w' C.ub (sY fun y=>if y=id then true else m.used y) n) (J:Lv (fun k=>k=C.ub) w w'):jW w' Gs R g P ⟨m.S,fun y=>if y=id then true else m.used y,n⟩ C:=by
 have O:=h.b.D.lt;have hs:=J.size;refine⟨h.b.same (J.block g O h.gu) (fun k I ax=>J.block k ax fun e=>h.rg.2 (e▸h.ro k I)) hs,h.st.same (fun k I ay=>J.block k I fun e=>?_) hs,hu,fun k I=>aA (h.gl k I) hs,fun k I=>aA (h.rl k I) hs,h.sep,h.gu,h.ro,h.rg,fun i hi=>?_⟩
 ·rcases ay with h1|h1
  ·exact(h.sep k h1).2.1 e
  ·exact h.rg.2 (e▸h1)
 ·simp only
  split
  ·rfl
  ·exact h.su i hi
theorem jW.lv {F:Nat->Prop} (h:jW w Gs R g P m C) (J:Lv F w w') (hF:∀k,k=g\/k=C.ub\/Gs k\/R k->¬F k):jW w' Gs R g P m C:=by
 have hs:=J.size;exact⟨h.b.same (J.block g h.b.D.lt (hF g (.inl rfl))) (fun k I O=>J.block k O (hF k (.inr (.inr (.inr (h.ro k I)))))) hs,h.st.lv J fun k I=>hF k (.inr (.inr I)),h.us.lv J (hF _ (.inr (.inl rfl))),fun k I=>aA (h.gl k I) hs,fun k I=>aA (h.rl k I) hs,h.sep,h.gu,h.ro,h.rg,h.su⟩
def ic (w:World) (Gs R:Nat→Prop) (g:Nat) (P:PD) (C:zt) (B:Nat) (res:Mk×List ir) (e:Ending) (w':World):Prop:=
 res.2.length≤B∧∃A cp Gs',e= .returned (.slice A res.2.length cp)∧lD w.heap.size w' A cp res.2∧jW w' Gs' R g P res.1 C∧Lv (fun j=>j=C.ub∨Gs j) w w'∧(∀j,Gs' j→Gs j∨qO w w' j)∧∀b,(Value.slice A res.2.length cp).ownBlock=some b→¬Gs' b
theorem ic.before {J:World} {O:Nat} {e:Ending} (I:Bz w J) (h:ic J Gs R g P C B res e w') (hB:B<=O):ic w Gs R g P C O res e w':=by
 obtain⟨h0,A,cp,Gs',h1,h2,h3,h4,h5,h6⟩:=h;refine⟨aF h0 hB,A,cp,Gs',h1,ch h2 I.size,h3,Lv.iD I h4,fun j hj=>?_,h6⟩;rcases h5 j hj with D|D
 ·exact .inl D
 ·exact .inr ⟨aF I.size D.1,D.2⟩
theorem ic.same (h:jW w Gs R g P m C) {cp:Nat} {l:List ir} (hn:n=l.length) (own:lD w.heap.size w' A cp l) (I:Bz w w'):ic w Gs R g P C n (m,l) (.returned (.slice A n cp)) w':=by
 subst hn;refine⟨af _,A,cp,Gs,rfl,own,h.below I,Lv.bL I,fun j J=> .inl J,fun b D hg=>?_⟩;have O:=(own.lt b D).1;have:=h.gl b hg;omega
def my:List jz→Int
 |[]=>0
 |st::l=>st.aw+my l
theorem zu (P:PD) (id:Int) (x k:Nat) (st:jz):∀(l:List jz) (left:Int),kj P id x k (l++[st]) left=kj P id x k l left++nH P id x k st (left - my l - st.aw)
 |[],left=>by simp[kj,my]
 |a::l,left=>by
  have h:=zu P id x k st l (left - a.aw);rw[fO];unfold kj;rw[h,bD,show left - a.aw - my l - st.aw=left - my (a::l) - st.aw by simp only[my];omega]
theorem Fx (P:PD) (id:Int) (x k:Nat) (st:jz) (left:Int) (h:st.U.length<=500):(nH P id x k st left).length<=1503:=by
 unfold nH;have D:=vv P st st.U;have I:=Fw P st ⟨3,id,x,(k:Int)+1,st.ag,st.aw,left,0⟩;rw[aC];omega
theorem Sx (P:PD) (id:Int) (x k:Nat) (st:jz) (left:Int):nH P id x k st left≠[]:=by
 unfold nH lz
 split<;>simp
theorem Sy (L:List zJ):my (L.map (·.st))=(L.map (·.st.aw)).sum:=by
 induction L with
 |nil=>rfl
 |cons y L D=>simp only[aW,my,cN,D]
theorem Fy (h:∀y∈L,1<=y.st.aw):∀n,0<=my ((L.take n).map (·.st))/\my ((L.take n).map (·.st))<=my (L.map (·.st))/\(L.length:Int)<=my (L.map (·.st)):=by
 induction L with
 |nil=>intro n;simp[my]
 |cons y L O=>
  intro n;have h1:=h y (cg ..);have D:=O (fun z hz=>h z (bB _ hz));have e:my ((y::L).map (·.st))=y.st.aw+my (L.map (·.st)):=rfl;have e2:(((y::L).length:Nat):Int)=(L.length:Int)+1:=bT;rw[e,e2]
  cases n with
  |zero=>
   obtain⟨a1,J,a3⟩:=D 0;have I:my (((y::L).take 0).map (·.st))=0:=rfl;have e4:my ((L.take 0).map (·.st))=0:=rfl;rw[e4] at J;rw[I];exact⟨ae,ae,ae⟩
  |succ n=>
   obtain⟨a1,J,a3⟩:=D n;have I:my (((y::L).take (n+1)).map (·.st))=y.st.aw+my ((L.take n).map (·.st)):=rfl;rw[I];exact⟨ae,ae,ae⟩
theorem FA (l:List jz) (st:jz):my (l++[st])=my l+st.aw:=by
 induction l with
 |nil=>simp[my]
 |cons a l D=>simp only[fO,my,D];omega
theorem Sz {l:List zJ} (h:Cells w A (uI l)) {m:Nat} (hm:m<l.length):
  ∃b o y,A=some ⟨b,o,none⟩/\b<w.heap.size/\w.cell? ⟨b,o+m*4,none⟩=some (Iz y.st.ag)/\w.cell? ⟨b,o+m*4+1,none⟩=some (Iz y.st.aw)/\w.cell? ⟨b,o+m*4+2,none⟩=some (.bool y.st.imp)/\w.cell? ⟨b,o+m*4+3,none⟩=some (.slice y.A y.st.U.length y.c)/\Hid (l[m]?=some y):=by
 have I:(uI l).length=l.length*4:=dX zJ.bG l;have D:uI l≠[]:=by intro e;rw[e] at I;simp at I;omega
 obtain⟨b,o,rfl,J,hc⟩:=h D;have hr:l[m]?=some l[m]:=aj hm;have key:∀(j:Nat) (v:Value),j<4->(l[m]).cells[j]?=some v->Cz w b (o+m*4+j) v:=fun j v O hv=>by
  rw[bg];exact hc _ _ ((ig zJ.bG j O hr).trans hv)
 exact⟨b,o,l[m],rfl,J,key 0 _ ae rfl,key 1 _ ae rfl,key 2 _ ae rfl,key 3 _ ae rfl,hr⟩
theorem PS (u:Int->Bool) (id:Int):(fun y=>if y=id then some (Value.bool true) else sY u y)=sY (fun y=>if y=id then true else u y):=by
 funext y
 unfold sY
 by_cases D:y=id<;>simp[D]
theorem PT (u:Int->Bool) (id:Int) (n:Nat):(if (sY u id).isSome=true then n else n+1)=if u id=true then n else n+1:=by
 unfold sY
 by_cases D:u id=true<;>simp[D]
def qk (P:PD) (id:Int) (x k:Nat) (ag aw:Int) (L:List zJ) (n:Nat):List ir:=⟨1,id,x,(k:Int)+1,ag,aw,aw,0⟩::kj P id x k ((L.take n).map (·.st)) aw
theorem FB {x:Nat} (I:L[n]?=some y):qk P id x k ag aw L (n+1)=qk P id x k ag aw L n++nH P id x k y.st (aw - my ((L.take n).map (·.st)) - y.st.aw):=by
 unfold qk;have D:(L.take (n+1)).map (·.st)=(L.take n).map (·.st)++[y.st]:=by rw[bC,I];simp
 rw[D,zu,fO]
theorem CM {P:PD} {id:Int} {x k:Nat} {ag aw:Int} {L:List zJ} (h:∀y∈L,y.st.U.length<=500):∀n,(qk P id x k ag aw L n).length<=1+1503*n
 |0=>by simp[qk,kj]
 |n+1=>by
  have I:=CM (P:=P) (id:=id) (x:=x) (k:=k) (ag:=ag) (aw:=aw) h n
  cases D:L[n]? with
  |none=>
   have:L.take (n+1)=L.take n:=by rw[bC,D];simp
   unfold qk at I⊢;rw[this];omega
  |some y=>
   rw[FB D,aC];have:=Fx P id x k y.st (aw - my ((L.take n).map (·.st)) - y.st.aw) (h y (aH D));omega
structure Y3 (w w3 wr:World) (b0:Nat) (A:Option Addr) (c:Nat) (O:List ir):Prop where
 row:lD w.heap.size wr A c O
 jV:∀b,(Value.slice A O.length c).ownBlock=some b→b=b0∨w3.heap.size≤b
 lv:Lv (fun k=>k=b0) w3 wr
theorem PU (g:Nat) (P:PD) (m:Mk) (Gs R:Nat->Prop) (C:zt) (c:bN) (x k:Nat) (w:World) (h:jW w Gs R g P m C) (fx:c.inst=(x:Int)) (fz:c.side=(k:Int)+1) (hx:x<P.count) (hk:k<2) (hq:1<=c.aw/\c.aw<=1000000) (cS:dZ c.id) (hp:P.fy x c.ag=0)
  (eK:¬fI m.S c.id) (fH:cK m.S<250) (fT:m.un<1000000) (hl:c.ky.length<=9223372036854775807):
  Wz 70 #[Pz g,c.val] w (ic w Gs R g P C (2+1503*c.aw.toNat) (iE P m c.id x k c.ag c.aw c.time)):=by
 obtain⟨ck,ci,cn,cs,I,cq,cl,ct,cb⟩:=c;simp only at fx fz hq cS hp eK hl⊢;subst fx;subst fz;obtain⟨w0,cT⟩:=Zn (w.alloc (.cells (bN.cells ⟨ck,ci,(x:Int),(k:Int)+1,I,cq,cl,ct,cb⟩) 35));obtain⟨gc,cX⟩:=Zn w.heap.size;have B0:=Zw cT;have C0:kM w0 gc ⟨ck,ci,(x:Int),(k:Int)+1,I,cq,cl,ct,cb⟩:=cT▸cX▸kM.new _ _;have h0:=h.below B0;obtain⟨d0,d1,d2,d3,d4,d5,d6,d7,d8⟩:=C0.reads;obtain⟨m0,m1,m2,m3,m4,m5,m6,m7,m8,m9,bQ,ba,bt⟩:=h0.b.cells;have hL:g<w0.heap.size:=h0.b.D.lt;have hN:gc<w0.heap.size:=C0.lt;obtain⟨w1,f0,f1,f2⟩:=(h0.us.below (aS (aa _ _))).put Tryz.underlying88 cS (.bool true) fT;have hP:∀u,aR w0.drew u->Cz u g 12 (.map (some C.ub)):=fun u hu=>Yb hu hL bt;have e1:∀u,aR w0.drew u->Cz u gc 1 (Iz ci):=fun u hu=>Yb hu hN d1;obtain⟨H,H0,c0,eL,hQ,hU,hV,hW,HP,hX,f3⟩:=Hl h h0 B0 C0 f1 f2 eK fH hp cS cX;clear h h0 B0 C0 f1 f2 eK fH hp cS fT d0 d1 d2 d3 d4 d5 d6 d7 d8 m0 m1 m2 m3 m4 m5 m6 m7 m8 m9 bQ ba bt;rw[show(bN.val ⟨ck,ci,(x:Int),(k:Int)+1,I,cq,cl,ct,cb⟩)= .agg (bN.cells ⟨ck,ci,(x:Int),(k:Int)+1,I,cq,cl,ct,cb⟩) from rfl]
 go_enter Tryz.func70,Tryz.ntmps70
 go_upto_region 1 with(fail)
 rw[<-cT,<-cX];clear cT cX;refine bx (R:=aR) 6 [6] [0,1,2,3,4,5,6] (by kernel_rfl) aR.tr aR.J (by kernel_rfl) (fun _ _ _ _ _ h=>h) ?_;refine Yt ?_;clear hP e1;refine Zl fun K hK=>?_;go_simp;refine Yl hK ?_;refine aT ?_;have M1:=hQ.h;rw[PS,PT] at M1;have L1:Lv (fun k=>k=C.ub) w0 w1:=(Lv.drew (Lv.refl _ w0)).then (Lv.dy hU fun k hk=> .inl (by injection hk with hk;exact hk.symm));have eM:=H0.h.use ci M1 L1;obtain⟨m1,eO⟩:=Zn (⟨m.S,fun y=>if y=ci then true else m.used y,if m.used ci=true then m.un else m.un+1⟩:Mk);rw[<-eO] at eM;have C1:kM w1 gc ⟨ck,ci,(x:Int),(k:Int)+1,I,cq,cl,ct,cb⟩:=(L1.block gc eL.lt fun e=>jE H.h.us.lt f3.h).trans eL;obtain⟨d0,d1,d2,d3,d4,d5,d6,d7,d8⟩:=C1.reads;obtain⟨hY,f4,bR,dc⟩:=mh C1 eM L1 eO;clear C1 eM L1 eO M1 f0
 go_upto_region 3 with(fail)
 obtain⟨w2,dp⟩:=Zn (w1.alloc (.cells #[Iz 1,Iz ci,Iz (x:Int),Iz ((k:Int)+1),Iz I,Iz cq,Iz cq,Iz 0] 40));obtain⟨b0,dS⟩:=Zn w1.heap.size;rw[<-dp,<-dS];have B2:=Zw dp;have dT:=f4.h.below B2;have C2:=hY.h.below B2;have bU:w.heap.size<=w1.heap.size:=jE c0.h.size bR.h.size;have R2:lD w.heap.size w2 (some ⟨b0,0,none⟩) 1 [⟨1,ci,(x:Int),(k:Int)+1,I,cq,cq,0⟩]:=dp▸dS▸cI (base:=w.heap.size) (size:=8) w1 #[Iz 1,Iz ci,Iz (x:Int),Iz ((k:Int)+1),Iz I,Iz cq,Iz cq,Iz 0] 1 bU (by unfold maxLen;omega) rfl;obtain⟨m0,eP,m2,m3,m4,m5,m6,m7,m8,m9,bQ,ba,bt⟩:=dT.b.cells;have f5:g<w2.heap.size:=dT.b.D.lt;have f6:gc<w2.heap.size:=C2.lt;clear d0 d1 d2 d3 d4 d5 d6 d7 d8;obtain⟨d0,d1,d2,d3,d4,d5,d6,d7,d8⟩:=C2.reads;obtain⟨Fs,d9⟩:=Zn (fun j=>j=g\/j=gc:Nat->Prop);have mg:Fs g:=d9▸.inl rfl;have mc:Fs gc:=d9▸.inr rfl;have eQ:∀u,aI Fs w2.drew u->Cz u g 11 (Pz C.s):=fun u hu=>(hu.cell mg).trans ba;have e2:∀u,aI Fs w2.drew u->Cz u gc 2 (Iz (x:Int)):=fun u hu=>(hu.cell mc).trans d2;have e3:∀u,aI Fs w2.drew u->Cz u gc 3 (Iz ((k:Int)+1)):=fun u hu=>(hu.cell mc).trans d3;have e4:∀u,aI Fs w2.drew u->Cz u gc 4 (Iz I):=fun u hu=>(hu.cell mc).trans d4;have e5:∀u,aI Fs w2.drew u->Cz u gc 5 (Iz cq):=fun u hu=>(hu.cell mc).trans d5;have ej:w.heap.size<=gc:=bu f3.symm;have ek:∀j,Gs j->j<w.heap.size:=H.gl;obtain⟨eR,bf,h5,ea,eo,f7,h6,f8,bV,eS,ep⟩:=Hl B2 dT C2 R2 dS bU d9 ej ek f5 f6;clear B2 dT C2 R2 dS dp bU m0 eP m2 m3 m4 m5 m6 m7 m8 m9 bQ ba bt d0 d1 d2 d3 d4 d5 d6 d7 d8 d9 mg mc ej ek f5 f6;refine bx (R:=aI Fs) 99999 [12] [0,1,2,3,4,5,6,7,8,9,10,11,12,13,14,15,16,17] (by kernel_rfl) (aI.tr _) (aI.J _) (by kernel_rfl) (fun _ _ _ _ _ h=>h) ?_;refine Yt ?_;clear eQ e2 e3 e4 e5;refine Ym fun K hK=>?_;refine(GF C.s P m1.S Gs R x k ((k:Int)+1) I cq _ bf.st.drew hx hk rfl hq).mono ?_;rintro e w3⟨Al,h7,L,G3,rfl,hT⟩;rw[show m1.S=m.S by rw[dc.h]] at hT;have hh:aI Fs w2.drew w3:=fun j hj=>by
  rw[h6.h] at hj;rcases hj with rfl|rfl
  ·exact hT.lv.block _ eS fun e=>(bf.sep _ e).1 rfl
  ·exact hT.lv.block _ ep fun e=>jE (bV.h _ e) f8.h
 refine Yo hK (hh) ?_;have HT:=ao hT;clear hT hh;refine Yt ?_;refine aT ?_;obtain⟨res,a7⟩:=Zn (dV P cq.toNat m.S x k I cq);have b7:m1.S=m.S:=by rw[dc.h]
 rw[b7,<-a7];have hT:=HT.h;rw[<-a7] at hT;obtain⟨left,el⟩:=Zn res.2.2;rw[<-el];have f9:=hT.l0;have eT:=hT.sm;rw[<-el] at f9 eT;have b8:Lv Gs w2 w3:=(Lv.drew (Lv.refl _ w2)).then hT.lv;have gi:=bf.h.state (S':=res.1) hT.st b8 hT.sub (fun id hs=>bf.su id (by rw[b7];rw[a7] at hs;exact(Sub.run P _ _ _ _ _ _).stands hs));have er:w.heap.size<=b0:=eo.h▸f7;have et:b0<w2.heap.size:=(ea.lt b0 rfl).2;have eu:∀j,j=g\/j=C.ub\/G3 j\/R j->¬(j=b0):=fun j hj e=>by
  subst e;rcases hj with e|e|e|e
  ·have:=H.h.b.D.lt;omega
  ·have:=H.h.us.lt;omega
  ·rcases hT.sub j e with h1|h1
   ·have:=bV.h j h1;omega
   ·have h2:w2.heap.size<=j:=h1.1;omega
  ·have:=H.h.rl j e;omega
 have ew:gc≠b0:=QF eL.h.lt bR.h.size eo.h;have C3:kM w3 gc ⟨ck,ci,(x:Int),(k:Int)+1,I,cq,cl,ct,cb⟩:=(b8.block gc ep fun e=>jE (bV.h _ e) f8.h).trans h5;have R3:lD w.heap.size w3 (some ⟨b0,0,none⟩) 1 [⟨1,ci,(x:Int),(k:Int)+1,I,cq,cq,0⟩]:=aX ea fun j hj=>b8.block j (ea.lt j hj).2 fun e=>by
  have h1:=(ea.lt j hj).1;have:=bV.h j e;omega
 have E3:Y3 w w3 w3 b0 (some ⟨b0,0,none⟩) 1 (qk P ci x k I cq L 0):=⟨R3,fun b hb=> .inl (by injection hb with hb;exact hb.symm),Lv.refl _ _⟩;obtain⟨N,eN⟩:=Zn L.length;have eU:=Fy hT.qs N;have ey:my (L.map (·.st))+left=cq:=by rw[Sy];exact eT
 have ka:N<=1000000:=ae;have gj:N<=cq.toNat:=ae;have eV:=ao gj;clear gj;have gq:∀n,0<=my ((L.take n).map (·.st))/\my ((L.take n).map (·.st))<=cq:=fun n=>cA (Fy hT.qs n);have bb:0<=left/\left<=1000000:=ae;obtain⟨d0,d1,d2,d3,d4,d5,d6,d7,d8⟩:=C3.reads;obtain⟨ay,a8,b9,h8,HN,bE,ez,gv,cd,gx,eB,h9,cf,eW,j7⟩:=V8 hT gi C3 E3 eN eu ew gq et er a7 el b8 bb ey;rw[<-eN];clear hT gi C3 E3 eN eu ew gq et er a7 el b8 f9 eT eU R3 b7 HT bb ey;go_wp2_with fail
 go_loopw [5,8,51] (fun ov lv v wr=> ∃(n:Nat) (A:Option Addr) (cp:Nat) (O:Nat),n<=N/\v= Iz (n:Int)/\ov= .slice A O cp/\lv= Iz (cq - my ((L.take n).map (·.st)))/\Hid (O=(qk P ci x k I cq L n).length/\Y3 w w3 wr b0 A cp (qk P ci x k I cq L n))) (fun _ _ v _=>N - (intOf v).toNat)
 case atStart=>exact⟨0,_,_,1,aB _,rfl,rfl,by simp[my],ao ⟨rfl,h8⟩⟩
 case round=>
  obtain⟨n,A,cp,O,hn,rfl,rfl,rfl,HI⟩:=hrel;obtain⟨hO,hI⟩:=HI.h;have cm:w3.heap.size<=wr.heap.size:=hI.lv.size
  by_cases eb:n<N
  ·have cv:wr.ownsRow w2.heap.size 186 4 (.slice Al L.length h7) L.length (uI L):=aX ay.steps.row fun j hj=>hI.lv.block j (ay.steps.row.lt j hj).2 fun e=>by
    have h1:w2.heap.size<=j:=(ay.steps.row.lt j hj).1;have:=cd.h;have e':j=b0:=e;omega
   obtain⟨bs,os,y,eA,kf,s0,s1,s2,s3,hy⟩:=Sz (dP.O cv) (m:=n) (HN.h▸eb);have cF:y∈L:=aH hy.h;have ed:=(ay.steps.fl y cF).1;have gy:Cells wr y.A (gW y.st.U):=dP.O (aX ed fun j hj=>hI.lv.block j (ed.lt j hj).2 fun e=>by
    have h1:w2.heap.size<=j:=(ed.lt j hj).1;have:=cd.h;have e':j=b0:=e;omega)
   have eC:=ay.h.ok y cF;have ia:=ay.h.qs y cF;have hC:=b9.h.lt;have Cr:kM wr gc ⟨ck,ci,(x:Int),(k:Int)+1,I,cq,cl,ct,cb⟩:=(hI.lv.block gc b9.lt ez).trans b9;have Mr:=a8.h.lv hI.lv bE;clear d0 d1 d2 d3 d4 d5 d6 d7 d8;obtain⟨d0,d1,d2,d3,d4,d5,d6,d7,d8⟩:=Cr.reads;have a2:gc<wr.heap.size:=Cr.lt;have i1:(n:Int)<N:=ae;have eY:(L.take (n+1)).map (·.st)=(L.take n).map (·.st)++[y.st]:=by rw[bC,hy.h];simp
   have gA:=gv.h (n+1);have ib:=gv.h n;rw[eY,FA] at gA;obtain⟨lf,eZ⟩:=Zn (cq - my ((L.take n).map (·.st)));rw[<-eZ];have ih:0<=lf/\lf<=1000000:=ae;have gG:0<=lf - y.st.aw:=ae;obtain⟨qy,e0⟩:=Zn y.st.aw;rw[<-e0] at s1 gG ia;have hlen:(qk P ci x k I cq L n).length<=1+1503*n:=CM (fun y hy=>(ay.ok y hy).len) n;obtain⟨ef,e6,il,eD,a0,iF,gI,e7,HO,gO,gP,ki,kk⟩:=QO hI eb gy eC Mr eY eZ e0 hO cm hlen Cr cF;rw[eA];clear hI eb gy eC Mr eY eZ e0 hO cm hlen HI ib gA ed cv cF hC eA hn Cr;obtain⟨j8,j9⟩:=ih;go_wp2_with fail;obtain⟨wa,e9⟩:=Zn (wr.alloc (.cells #[Iz y.st.ag,Iz qy, .bool y.st.imp, .slice y.A y.st.U.length y.c] 186));have Ba:=Zw e9;rw[<-e9];obtain⟨L5,cH⟩:=Zn (nH P ci x k y.st (lf - qy));have gR:Wz 108 #[Pz g, .agg #[Iz ck,Iz ci,Iz (x:Int),Iz ((k:Int)+1),Iz I,Iz cq,Iz cl,Iz ct, .string (str cb)], .agg #[Iz y.st.ag,Iz qy, .bool y.st.imp, .slice y.A y.st.U.length y.c],Iz (lf - qy)] wa fun e w'=> ∃A cp,e= .returned (.slice A L5.length cp)/\lD wa.heap.size w' A cp L5/\Bz wa w':=cH▸e7.h▸Sw g P C.ma C.mc C.sa C.sc C.s C.ub x k y ⟨ck,ci,(x:Int),(k:Int)+1,I,cq,cl,ct,cb⟩ (lf - y.st.aw) wa (a0.b.below Ba) (il.below Ba) rfl rfl hx hk eD;have i4:L5.length<=1503:=cH▸Fx P ci x k y.st _ eD.len;have gT:L5≠[]:=cH▸Sx P ci x k y.st _;obtain⟨i5,g3,i6⟩:=fY Ba cH gT;clear e9 Ba cH s0 s1 s2 s3 d0 d1 d2 d3 d4 d5 d6 d7 d8 a2 gT;refine gR.mono ?_;clear gR;rintro e w5⟨A5,c5,rfl,eE,b5⟩;have B5:Bz wr w5:=dW i5 b5;have r5:w5.ownsRow w.heap.size 40 8 (.slice A O cp) O (fC (qk P ci x k I cq L n)):=HO.h▸bP ef.row B5;have C5:Cells w5 A5 (fC L5):=dP.O eE;obtain⟨M5,fa⟩:=Zn L5.length;rw[<-fa] at i4⊢;have hO:O<=1+1503*n:=HO.h▸gP;have kl:n<=1000000:=jE e6.h HN.h;have g4:w.heap.size<=w5.heap.size:=by have:=B5.size;have:=gO.h;have:=cf.h.size;have:=gx.h;have:=cd.h;omega
   obtain⟨g6,i7,i9,g7⟩:=mh B5 r5 C5 fa;clear B5 r5 C5 fa eE b5
   go_wp2_with (at_builtin
                refine kS yP i7 (A:=A5) (m:=M5) (c:=c5) (news:=fC L5) rfl _ _ rfl rfl rfl (by rw[iL,g7.h]) (by intro h0;have h1:=iL L5;rw[h0] at h1;simp at h1;exact i6 (aP ae)) i9 (x9 L5) ae g4 (O+M5) _ rfl rfl ?_;intro A6 c6 w6 eF;have g8:=ao eF;clear eF)
   go_roundw
   case rel=>
    have ff:=g8.h;have a5:=FB (P:=P) (id:=ci) (x:=x) (k:=k) (ag:=I) (aw:=cq) hy.h;rw[<-gI.h,<-e7.h,<-g3.h] at a5;have ax:O+M5=(qk P ci x k I cq L (n+1)).length:=by rw[a5,aC,HO.h,g7.h]
    refine⟨n+1,A6,c6,O+M5,cA e6.h,by go_num,rfl,?_,ao ⟨ax,?_,fun b hb=>?_,?_⟩⟩
    ·have h1:=gI.h;have h2:=e7.h
     rw[iF.h,FA,<-h2,(ae:cq - (my ((L.take n).map (·.st))+qy)=lf - qy)]
    ·unfold lD
     rw[<-ax,a5,rJ];exact ff.own
    ·rw[<-ax] at hb
     rcases ff.jV with h1|h1
     ·rw[h1,HO.h] at hb;exact ef.jV b hb
     ·rw[h1] at hb;injection hb with hb;exact .inr (jE gO.h g6.h.size)
    ·refine(ef.lv.cV g6).trans (Lv.dy (F:=fun j=>(Value.slice A O cp).ownBlock=some j) ff.grown fun j hj=> .inl hj) fun j hj=>?_
     rw[HO.h] at hj;exact ef.jV j hj
   case measure=>have:=e6.h;simp[intOf];omega
  ·obtain rfl:n=N:=ae
   have g9:=hI;have ho:(L.take n).map (·.st)=res.2.1:=by rw[HN.h,dE];exact ay.map
   have a5:qk P ci x k I cq L n=⟨1,ci,(x:Int),(k:Int)+1,I,cq,cq,0⟩::kj P ci x k res.2.1 cq:=by unfold qk;rw[ho]
   have hE:iE P m ci x k I cq ct=if left=0 then (⟨res.1,m1.used,m1.un⟩,qk P ci x k I cq L n) else if ct=1 then (⟨oW res.1 x k ci I left,m1.used,m1.un⟩,qk P ci x k I cq L n) else (⟨res.1,m1.used,m1.un⟩,qk P ci x k I cq L n++[⟨4,ci,(x:Int),(k:Int)+1,I,left,0,0⟩]):=by
    rw[a5,dc.h,h9.h,eB.h];rfl
   have Mr:=a8.h.lv hI.lv bE;have fi:Lv (fun j=>j=C.ub\/Gs j) w wr:=
    ((((Lv.bL c0:Lv (fun j=>j=C.ub\/Gs j) w w0).trans bR (fun j hj=> .inl (.inl hj))).cV eR).trans cf (fun j hj=> .inl (.inr hj))).trans hI.lv (fun j hj=> .inr (by have:=gx.h;have e':j=b0:=hj;omega))
   have eG:∀j,G3 j->Gs j\/qO w wr j:=fun j hj=>by
    rcases ay.sub j hj with h2|h2
    ·exact .inl h2
    ·have h3:w2.heap.size<=j:=h2.1
     have h4:j<w3.heap.size:=h2.2;exact .inr ⟨QF bR.h.size c0.h.size eR.h.size,ae⟩
   have ht:∀b,(Value.slice A O cp).ownBlock=some b->¬G3 b/\b<wr.heap.size:=fun b hb=>by
    rw[hO] at hb;have h1:=hI.row.lt b hb;rcases hI.jV b hb with e|e
    ·exact⟨fun hg=>bE b (.inr (.inr (.inl hg))) e,h1.2⟩
    ·refine⟨fun hg=>?_,h1.2⟩
     rcases ay.sub b hg with h2|h2
     ·have:=bV.h b h2;have:=bR.h.size;have:=c0.h.size;have:=eR.h.size;have:=cf.h.size;omega
     ·have h4:b<w3.heap.size:=h2.2
      omega
   have Cr:kM wr gc ⟨ck,ci,(x:Int),(k:Int)+1,I,cq,cl,ct,cb⟩:=(hI.lv.block gc b9.lt ez).trans b9;have hB:w.heap.size<=wr.heap.size:=fi.size;have bb:=eW.h;have i1:¬((n:Int)<n):=ae;have eI:wr.ownsRow w.heap.size 40 8 (.slice A O cp) O (fC (qk P ci x k I cq L n)):=hO▸hI.row;obtain⟨bh,HE,a0,fk,bp,a6,kn,HO,hD⟩:=QG eI hE Mr fi eG ht Cr hO hB;have cQ:O<=1+1503*n:=hO▸CM (fun y hy=>(ay.ok y hy).len) n;have eg:=ao cQ;have bc:Hid (∀b,(Value.slice A O cp).ownBlock=some b->b=b0\/w3.heap.size<=b):=ao fun b hb=>g9.jV b (by rw[HO.h] at hb;exact hb);clear ho a5 hE Mr fi eG ht hO hI g9 HI hB eI cQ eb d0 d1 d2 d3 d4 d5 d6 d7 d8 hn cm
   by_cases hz:left=0
   ·have i2:(left==0)=true:=by simp[hz]
    have HZ:=ao hz;clear hz Cr;go_wp2_with fail;go_ret;rw[HE.h,if_pos HZ.h];refine⟨by show(qk P ci x k I cq L n).length<=_;have:=eg.h;have:=HO.h;have:=eV.h;omega,A,cp,G3,by rw[<-HO.h];rfl,by rw[lD,<-HO.h];exact bh,a0,fk,bp,fun b hb=>(a6 b (HO.h▸hb)).1⟩
   ·have i2:(left==0)=false:=by simpa using hz
    have HZ:=ao hz;obtain⟨d0,d1,d2,d3,d4,d5,d6,d7,d8⟩:=Cr.reads;have a2:gc<wr.heap.size:=Cr.lt;clear hz Cr
    by_cases bH:ct=1
    ·have i3:(ct==1)=true:=by simp[bH]
     have fq:=ao bH;clear bH;obtain⟨m0,eP,m2,m3,m4,m5,m6,m7,m8,m9,bQ,ba,bt⟩:=a0.h.b.cells;have j0:g<wr.heap.size:=a0.b.D.lt;have eQ:∀u,aR wr.drew u->Cz u g 11 (Pz C.s):=fun u hu=>Yb hu j0 ba;have e1:∀u,aR wr.drew u->Cz u gc 1 (Iz ci):=fun u hu=>Yb hu a2 d1;have e2:∀u,aR wr.drew u->Cz u gc 2 (Iz (x:Int)):=fun u hu=>Yb hu a2 d2;have e3:∀u,aR wr.drew u->Cz u gc 3 (Iz ((k:Int)+1)):=fun u hu=>Yb hu a2 d3;have e4:∀u,aR wr.drew u->Cz u gc 4 (Iz I):=fun u hu=>Yb hu a2 d4;clear m0 eP m2 m3 m4 m5 m6 m7 m8 m9 bQ ba bt d0 d1 d2 d3 d4 d5 d6 d8;go_wp2_with fail;refine bx (R:=aR) 13 [13] [0,1,2,3,4,5,6,7,8,9,10,11,12,13] (by kernel_rfl) aR.tr aR.J (by kernel_rfl) (fun _ _ _ _ _ h=>h) ?_;refine Yt ?_;clear eQ e1 e2 e3 e4;refine Zl fun K hK=>?_;go_simp;have hG:Sub res.1 m.S:=eB.h▸Sub.run P _ _ _ _ _ _;have j1:x<res.1.length:=by rw[a0.h.st.len];exact hx
     have hM:res.1[x]?=some res.1[x]:=aj j1;refine(Sn C.s P res.1 G3 R x k res.1[x] ((k:Int)+1) ci I left _ a0.st.drew hM hk rfl hX (fun y N' j2 e' j3 hH=>hV (hG.stands ⟨y,N',e',j2,j3,hH⟩)) (jE hG.cnt hW.h) HP ⟨cA HZ.h,ae⟩).mono ?_;rintro en w4⟨rfl,j4,L4⟩;have ei:Lv G3 wr w4:=(Lv.drew (Lv.refl _ wr)).then L4;refine Yl hK ?_;refine aT ?_;go_wp2_with fail;go_ret;rw[HE.h,if_neg HZ.h,if_pos fq.h];have M4:=a0.h.state (S':=oW res.1 x k ci I left) j4 ei (fun j hj=>hj) (fun id hs=>by
      rcases Md hs with e'|e'
      ·rw[e',dc.h];simp
      ·exact a0.su id e')
     refine⟨by show(qk P ci x k I cq L n).length<=_;have:=eg.h;have:=HO.h;have:=eV.h;omega,A,cp,_,by rw[<-HO.h];rfl,?_,M4,fk.trans ei (fun j hj=>?_),fun j hj=>?_,fun b hb hg=>?_⟩
     ·rw[lD,<-HO.h]
      exact aX bh fun b hb=>ei.block b (a6 b hb).2 (a6 b hb).1
     ·rcases bp j hj with h1|h1
      ·exact .inl (.inr h1)
      ·exact .inr h1.1
     ·rcases hj with h1|h1
      ·rcases bp j h1 with h2|h2
       ·exact .inl h2
       ·exact .inr ⟨h2.1,aA h2.2 ei.size⟩
      ·exact .inr ⟨aF hD h1.1,h1.2⟩
     ·have h2:=a6.h b (HO.h▸hb)
      rcases hg with h1|h1
      ·exact h2.1 h1
      ·have h3:wr.heap.size<=b:=h1.1
       omega
    ·have i3:(ct==1)=false:=by simpa using bH
     have fq:=ao bH;clear bH
     go_wp2_with (at_builtin
                  refine dO yP bh #[Iz 4,Iz ci,Iz (x:Int),Iz ((k:Int)+1),Iz I,Iz left,Iz 0,Iz 0] rfl _ _ rfl rfl rfl rfl (by intro u hu;simp at hu;rcases hu with rfl|rfl|rfl|rfl|rfl|rfl|rfl|rfl<;>rfl) (jE eg.h HN.h) hD ?_;intro A2 j5 w4 eJ g2 b2 l2;obtain⟨hJ,eS,j6⟩:=fY eJ g2 l2;clear eJ g2 b2 l2)
     go_ret;rw[HE.h,if_neg HZ.h,if_neg fq.h];have ax:O+1=(qk P ci x k I cq L n++([⟨4,ci,(x:Int),(k:Int)+1,I,left,0,0⟩]:List ir)).length:=by rw[aC,<-HO.h];rfl
     have L4:Lv (fun j=>(Value.slice A O cp).ownBlock=some j) wr w4:=Lv.dy eS fun j hj=> .inl hj;have M4:=a0.h.lv L4 (fun j hj hb=>by
      have h2:=a6.h j hb;rcases hj with e'|e'|e'|e'
      ·exact bE j (.inl e') (by rcases bc j hb with h3|h3;exact h3;have:=a8.h.b.D.lt;omega)
      ·exact bE j (.inr (.inl e')) (by rcases bc j hb with h3|h3;exact h3;have:=a8.h.us.lt;omega)
      ·exact h2.1 e'
      ·exact bE j (.inr (.inr (.inr e'))) (by rcases bc j hb with h3|h3;exact h3;have:=a8.h.rl j e';omega))
     refine⟨by show(qk P ci x k I cq L n++([⟨4,ci,(x:Int),(k:Int)+1,I,left,0,0⟩]:List ir)).length<=_;rw[<-ax];have:=eg.h;have:=HO.h;have:=eV.h;omega,A2,j5,G3,by rw[<-ax];rfl,?_,M4,fk.trans L4 (fun j hj=> .inr ?_),fun j hj=>?_,fun b hb hg=>?_⟩
     ·rw[lD,<-ax,rJ]
      exact hJ
     ·exact(bh.lt j hj).1
     ·rcases bp j hj with h2|h2
      ·exact .inl h2
      ·exact .inr ⟨h2.1,aA h2.2 L4.size⟩
     ·rw[<-ax] at hb
      rcases j6 with h1|h1
      ·rw[h1] at hb;exact(a6 b hb).1 hg
      ·rw[h1] at hb
       injection hb with hb;have:b<wr.heap.size:=a0.gl b hg;omega
end Go.Proofs.YtbaaheidifacaaaGreat
