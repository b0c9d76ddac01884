import Derived.Test.YtbaaheidifacaaaGreatQCmd
import Derived.Test.YtbaaheidifacaaaGreatQMatch2
set_option linter.defProp false
set_option linter.unusedVariables false
set_option linter.unusedSimpArgs false
set_option maxRecDepth 100000
set_option maxHeartbeats 12800000
namespace Go.Proofs.YtbaaheidifacaaaGreat
variable {A A' A2 Ab ma sa:Option Addr} {B c c2 cb g go k mc n s sc ub:Nat} {Fs:Nat→Nat→Prop} {Gs R:Nat→Prop} {L:List zJ} {P:PD} {S:Sm} {T T':TypeId} {bs:List Nat} {cs:Array Value} {f:Int→Option Value} {id ag aw:Int} {l:List fG} {m:Mk} {p:fG→Bool} {r:ir} {res:Mk×List ir} {st:jz} {u w w':World} {us xs ys:List Value} {v x:Value} {y:zJ}
open Go.RowKit
theorem Tryz.UB:(Tryz.prog.info? 133).map (fun i=>(i.zero,i.size,i.bytes))=some (some (.pointer none),1,8):=by kernel_rfl
theorem VU:kA Tryz.prog 130 133 (.pointer none) 1 8:=
 ⟨Tryz.underlying130,let ⟨i,h,D,I,J⟩:=info_parts Tryz.UB;⟨i,h,D,I,J⟩,rfl,ae,ae⟩
structure TI (w wr:World) (gc mb:Nat) (P:PD) (ma:Option Addr) (mc:Nat) (sa:Option Addr) (sc:Nat) (f:Int→Option Value) (N:Nat) (S:Sm) (n:Nat) (Ab:Option Addr) (cb:Nat) (bs:List Nat) (Fs:Nat→Nat→Prop):Prop where
 D:aE wr gc 132 (NF.cells ⟨ma,mc,sa,sc,Ab,cb,bs,Fs,mb,f⟩ P)
 row:wr.ownsRow w.heap.size 133 1 (.slice Ab bs.length cb) bs.length (zp bs)
 mp:fR wr mb f N
 len:bs.length=n
 bk:∀(x b:Nat) (M:BM),bs[x]?=some b→S[x]?=some M→cz wr (Fs x) b M
 dj:∀x y k,Fs x k→Fs y k→x=y
 off:∀x k,Fs x k→w.heap.size≤k∧k<wr.heap.size∧k≠gc∧k≠mb∧(Value.slice Ab bs.length cb).ownBlock≠some k
 lo:w.heap.size≤gc∧w.heap.size≤mb
 jm:Bz w wr
theorem LW (bs:List Nat) (b:Nat):zp (bs++[b])=zp bs++[Pz b]:=by simp[zp]
theorem TI.push {wr w2 w3 w6:World} {gc mb:Nat} {N:Nat} {b:Nat} {M:BM} 
  (h:TI w wr gc mb P ma mc sa sc f N S n Ab cb bs Fs) (hM:S[n]?=some M) (hb:cz w2 (qO wr w2) b M) (b2:Bz wr w2) (b3:Bz w2 w3) (O:lJ w3 w.heap.size 133 1 (.slice Ab bs.length cb) (bs.length+1) (zp bs++[Pz b]) A2 c2 w6):
  TI w (w6.setCell ⟨gc,11,none⟩ (.slice A2 (bs.length+1) c2)) gc mb P ma mc sa sc f N S (n+1) A2 c2 (bs++[b]) (fun x=>if x=n then qO wr w2 else Fs x):=by
 have hl:(bs++[b]).length=bs.length+1:=bT;have bh:=b2.size;have bp:=b3.size;have bt:w3.heap.size<=w6.heap.size:=O.grown.size;have B3:=dW b2 b3;have a7:=h.jm.size;have ay:=h.D.below B3;have a0:∀g,(Value.slice Ab bs.length cb).ownBlock=some g->w.heap.size<=g/\g<wr.heap.size:=fun g hg=>h.row.lt g hg;have a2:(Value.slice Ab bs.length cb).ownBlock≠some gc:=fun e=>by
  obtain⟨cur,hc⟩:=bY h.row e;exact jY h.D hc (by decide) rfl
 have a5:=ay.block (O.grown.block gc ay.lt fun e=>a2 e.symm);have a3:∀{cur:Array Value} {T:TypeId} {k:Nat},wr.heap[k]?=some (.cells cur T (0,0))->k≠mb:=fun {cur T k} hc e=>by
  obtain⟨D,⟨es,clock,a6,_⟩,_⟩:=h.mp;rw[e] at hc;rw[hc] at a6;cases a6
 have a8:gc≠mb:=a3 h.D;have ba:(Value.slice Ab bs.length cb).ownBlock≠some mb:=fun e=>by
  obtain⟨cur,hc⟩:=bY h.row e;exact a3 hc rfl
 have keep:∀k,k<wr.heap.size->k≠gc->(Value.slice Ab bs.length cb).ownBlock≠some k->(w6.setCell ⟨gc,11,none⟩ (.slice A2 (bs.length+1) c2)).heap[k]?=wr.heap[k]?:=fun k hk I J=>by
  rw[av _ _ _ _ I,O.grown.block k ae fun e=>J e.symm];exact B3.block k hk
 have a4:∀k,k<w2.heap.size->wr.heap.size<=k->(w6.setCell ⟨gc,11,none⟩ (.slice A2 (bs.length+1) c2)).heap[k]?=w2.heap[k]?:=fun k hk I=>by
  rw[av _ _ _ _ (show k≠gc by have:=h.D.lt;omega),O.grown.block k ae fun e=>cA (a0 k e.symm)];exact b3.block k hk
 have ax:∀g,(Value.slice A2 (bs.length+1) c2).ownBlock=some g->(Value.slice Ab bs.length cb).ownBlock=some g\/g=w3.heap.size:=fun g hg=>by
  rcases O.jV with I|I
  ·rw[I] at hg;exact .inl hg
  ·rw[I] at hg;injection hg with hg;exact .inr hg.symm
 have bE:gc<wr.heap.size:=h.D.lt;have bb:mb<wr.heap.size:=h.mp.lt;refine⟨?_,?_,h.mp.block (keep mb bb (Ne.symm a8) ba),by rw[hl,h.len],fun x b' M' I J=>?_,fun x y k I J=>?_,fun x k hk=>?_,h.lo,?_⟩
 ·have h5:=a5.set 11 (.slice A2 (bs.length+1) c2)
  rw[<-hl] at h5;rw[<-hl];exact h5
 ·rw[hl,LW]
  refine aX O.own fun g hg=>av _ _ _ _ fun e=>?_;have e':g=gc:=e;subst e';rcases ax _ hg with I|I
  ·exact a2 I
  ·omega
 ·by_cases hx:x=n
  ·subst hx
   rw[if_pos rfl];rw[<-h.len,bK (af _),Vn] at I;have bc:b=b':=by simpa using I
   subst bc;rw[hM] at J;injection J with J;subst J;exact hb.same fun k hk hF=>a4 k hk hF.1
  ·rw[if_neg hx]
   have bf:x<bs.length:=by
    have:=(az.1 I).1;rw[hl] at this;have:=h.len;omega
   rw[bX bf] at I;refine(h.bk x b' M' I J).same fun k hk hF=>keep k hk (h.off x k hF).2.2.1 (h.off x k hF).2.2.2.2
 ·by_cases hx:x=n
  ·by_cases hy:y=n
   ·omega
   ·rw[if_pos hx] at I
    rw[if_neg hy] at J;have:=(h.off y k J).2.1;have:=I.1;omega
  ·by_cases hy:y=n
   ·rw[if_neg hx] at I
    rw[if_pos hy] at J;have:=(h.off x k I).2.1;have:=J.1;omega
   ·rw[if_neg hx] at I
    rw[if_neg hy] at J;exact h.dj x y k I J
 ·have hz:(w6.setCell ⟨gc,11,none⟩ (.slice A2 (bs.length+1) c2)).heap.size=w6.heap.size:=bT
  rw[hl,hz]
  by_cases hx:x=n
  ·rw[if_pos hx] at hk
   obtain⟨I,J⟩:=hk;refine⟨ae,ae,ae,ae,fun e=>?_⟩;rcases ax k e with h3|h3
   ·have:=a0 k h3;omega
   ·omega
  ·rw[if_neg hx] at hk
   obtain⟨I,J,h3,h4,h5⟩:=h.off x k hk;refine⟨I,ae,h3,h4,fun e=>?_⟩;rcases ax k e with h6|h6
   ·exact h5 h6
   ·omega
 ·exact(O.below w.heap.size w (af _) (h.jm.trans (B3.mono a7))).setCell (p:=⟨gc,11,none⟩) h.lo.1 _
theorem TI.done {wr:World} {gc mb:Nat} 
  (h:TI w wr gc mb P ma mc sa sc f (cK S) S n Ab cb bs Fs) (hn:n=P.count) (hS:S.length=P.count) (pd:iZ wr P ma sa) (R:Nat->Prop) (hR:∀k,qP ma k\/qP sa k->R k) (O:∀k,qP ma k\/qP sa k->k<wr.heap.size)
  (ax:∀k,qP ma k\/qP sa k->k≠gc/\k≠mb/\(Value.slice Ab bs.length cb).ownBlock≠some k/\∀x,¬Fs x k)
  (fw:∀(x:Nat) (M:BM) (e:dn),S[x]?=some M->e∈M.I->f e.id=some (Iz (x:Int)))
  (bw:∀(id:Int) (v:Value),f id=some v->∃(x:Nat) (M:BM) (e:dn),S[x]?=some M/\e∈M.I/\e.id=id/\v= Iz (x:Int))
  (pr:∀(x k:Nat) (M:BM) (r:iQ),S[x]?=some M->r∈M.side k->P.fy x r.1=0) (cnt:cK S<=250):dR wr (qO w wr) R gc P S:=by
 refine⟨⟨ma,mc,sa,sc,Ab,cb,bs,Fs,mb,f⟩,⟨h.D,pd,ch h.row (aB _),by rw[h.len,hn],hS,h.bk,h.dj,fun x k J=>⟨?_,fun hr=>(ax k hr).2.2.2 x J⟩,fun k J=>?_,fun x k J=>(h.off x k J).2.1,O,h.mp,fw,bw,pr,cnt⟩,fun k J=>?_,fun x k J=>⟨(h.off x k J).1,(h.off x k J).2.1⟩,hR⟩
 ·obtain⟨_,_,h3,h4,h5⟩:=h.off x k J
  rintro(e|e|e)
  ·exact h3 e
  ·exact h4 e
  ·exact h5 e
 ·obtain⟨h1,h2,h3,_⟩:=ax k J
  rintro(e|e|e)
  ·exact h1 e
  ·exact h2 e
  ·exact h3 e
 ·rcases J with rfl|rfl|J
  ·exact⟨h.lo.1,h.D.lt⟩
  ·exact⟨h.lo.2,h.mp.lt⟩
  ·exact h.row.lt k J
theorem yO (s:Nat) (P:PD) (S:Sm) (G R:Nat->Prop) (w:World) (h:dR w G R s P S):
  Wz 56 #[Pz s] w fun e w'=> ∃s',e= .returned (Pz s')/\dR w' (qO w w') (fun k=>R k/\k<w.heap.size) s' P S/\Bz w w':=by
 obtain⟨C,hS,cT,cX,hR⟩:=h;have bH:=hS.D.lt;have d:∀u,aR w.drew u->(Cz u s 0 (.string (str P.code))/\Cz u s 1 (.slice C.ma P.E.length C.mc)/\Cz u s 2 (Iz P.tick)/\Cz u s 3 (Iz P.low)/\Cz u s 4 (Iz P.high)/\Cz u s 5 (Iz P.wide)/\
  u.cell? ⟨s,6,none⟩=some (Iz P.rule)/\Cz u s 7 (Iz P.top)/\Cz u s 8 (Iz P.least)/\Cz u s 9 (Iz P.part)/\Cz u s 10 (.slice C.sa P.settle.length C.sc)/\Cz u s 11 (.slice C.A C.bs.length C.c)/\Cz u s 12 (.map (some C.mb))):=fun u hu=>
  have a4:Bz w u:=(aS (aa _ _)).trans hu
  (hS.same (fun k I=>a4.block k (hS.Pt k I)) (fun y k I=>a4.block k (hS.NG y k I)) (fun k I=>a4.block k (hS.Ps k I)) a4.size).gX
 have d0:=fun u hu=>(d u hu).1;have d1:=fun u hu=>(d u hu).2.1;have d2:=fun u hu=>(d u hu).2.2.1;have d3:=fun u hu=>(d u hu).2.2.2.1;have d4:=fun u hu=>(d u hu).2.2.2.2.1;have d5:=fun u hu=>(d u hu).2.2.2.2.2.1;have d6:=fun u hu=>(d u hu).2.2.2.2.2.2.1;have d7:=fun u hu=>(d u hu).2.2.2.2.2.2.2.1;have d8:=fun u hu=>(d u hu).2.2.2.2.2.2.2.2.1;have d9:=fun u hu=>(d u hu).2.2.2.2.2.2.2.2.2.1;have b9:=fun u hu=>(d u hu).2.2.2.2.2.2.2.2.2.2.1;have cd:=fun u hu=>(d u hu).2.2.2.2.2.2.2.2.2.2.2.1;have cf:=fun u hu=>(d u hu).2.2.2.2.2.2.2.2.2.2.2.2;clear d;have O:=ao hS;clear hS
 go_enter Tryz.func56,Tryz.ntmps56
 go_upto_region 1 with(fail)
 refine Zg [8,10] [0,1,2,3,4,5,6,7,8,9,10,11] ?_;refine Yt ?_;clear d0 d1 d2 d3 d4 d5 d6 d7 d8 d9 b9 cd cf;refine Ym fun K hK=>?_;refine(KI C.mb C.f (cK S) _ (O.mp.below (aS (aa _ _)))).mono ?_;rintro e w1⟨rfl,bc,b1⟩;refine Yo hK (b1) ?_;refine Yt ?_;refine Ym fun K hK=>?_;refine Yo hK (au (aa _ _) _) ?_;refine Yt ?_;refine aT ?_;obtain⟨k0,k1,k2,k3,k4,k5,k6,k7,k8,k9,ck,bQ,cl⟩:=O.h.gX;obtain⟨mb,a5⟩:=Zn w.heap.size;rw[<-a5];obtain⟨w2,a6⟩:=Zn (w1.alloc (.cells #[.string (str P.code), .slice C.ma P.E.length C.mc,Iz P.tick,Iz P.low,Iz P.high,Iz P.wide,Iz P.rule,Iz P.top,Iz P.least,Iz P.part, .slice C.sa P.settle.length C.sc, .slice none 0 0, .map (some mb)] 132));obtain⟨gc,a7⟩:=Zn w1.heap.size;rw[<-a7,<-a6];have bf:=bc.lt;have B1:Bz w w1:=(aS (aa _ _)).trans b1;have bh:=Zw a6;have B2:Bz w w2:=dW B1 bh;have G2:aE w2 gc 132 (NF.cells ⟨C.ma,C.mc,C.sa,C.sc,none,0,[],fun _ _=>False,mb,C.f⟩ P):=a6▸a7▸heap_alloc_new _ _;have M2:fR w2 mb C.f (cK S):=a5▸bc.below bh;have I2:TI w w2 gc mb P C.ma C.mc C.sa C.sc C.f (cK S) S 0 none 0 [] (fun _ _=>False):=
  ⟨G2,aM _ _ _ _,M2,rfl,fun x b M h=>by simp at h,fun x y k h=>h.elim,fun x k h=>h.elim,⟨a7▸B1.size,a5▸af _⟩,B2⟩
 have q2:Cz w2 s 11 (.slice C.A C.bs.length C.c):=Yb B2 bH bQ;have cm:=ao I2;obtain⟨N,eN⟩:=Zn C.bs.length;rw[<-eN] at q2;have cS:N<=21:=jE O.h.bn O.h.pd.right.cnt;obtain⟨HN,bR⟩:=dF eN B2;clear k0 k1 k2 k3 k4 k5 k6 k7 k8 k9 ck bQ cl I2 M2 G2 eN a6 a7 a5 bc b1 B1 bh B2 bf;go_wp2_with fail
 go_loopw [22] (fun v wr=> ∃(n:Nat) (Ab:Option Addr) (cb:Nat) (bs:List Nat) (Fs:Nat->Nat->Prop),n<=N/\v= Iz (n:Int)/\Hid (TI w wr gc mb P C.ma C.mc C.sa C.sc C.f (cK S) S n Ab cb bs Fs)) (fun v _=>N - (intOf v).toNat)
 case atStart=>exact⟨0,_,_,_,_,aB _,rfl,cm⟩
 case round=>
  obtain⟨n,Ab,cb,bs,Fs,hn,rfl,HI⟩:=hrel
  by_cases ax:n<N
  ·have bU:n<P.count:=by rw[<-O.h.bn,<-HN.h];exact ax
   obtain⟨b,M,hb,hM,bV⟩:=O.h.book bU;obtain⟨gA,hA,hp⟩:=mB O.ob hb;have ay:gA<w.heap.size:=(O.ob.lt gA (by rw[hA];rfl)).2;have hB:=HI.h.jm;have c0:Cz wr gA n (Pz b):=Yb hB ay hp;have i1:(n:Int)<N:=ae;have b0:=HI.h.D;have cn:∀u,aI (fun k=>k=gc) wr.drew u->Cz u gc 11 (.slice Ab bs.length cb):=fun u hu=>(hu.cell (b:=gc) (i:=11) rfl).trans (b0.cell 11);obtain⟨ct,HM,b4,dc⟩:=mh (bV.below hB) hM ax ay;rw[hA];clear hb hM bV hp hA bU hn ax b0 ay hB
   go_upto_region 5 with(fail)
   refine bx (R:=aI fun k=>k=gc) 11 [6,7,8,11] [0,1,2,3,4,5,6,7,8,9,10,11] (by kernel_rfl) (aI.tr _) (aI.J _) (by kernel_rfl) (fun _ _ _ _ _ h=>h) ?_;refine Yt ?_;clear cn;refine Ym fun K hK=>?_;refine(Pw b M (C.Fs n) _ (ct.below (aS (aa _ _)))).mono ?_;rintro e w2⟨b',rfl,b5,b2⟩;have ay:gc<wr.heap.size:=HI.D.lt;refine Yo hK ((fun k I=>by rw[show k=gc from I];exact b2.block gc ay)) ?_;have b6:=b2.size;have b7:wr.heap.size<=w2.heap.size:=b6;have bp:Bz wr w2:=(aS (aa _ _)).trans b2;refine Yt ?_;refine Ym fun K hK=>?_;refine Yo hK ((fun k I=>by rw[show k=gc from I];exact(au (aa w2.heap.size w2) _).block gc ae)) ?_;obtain⟨w3,a8⟩:=Zn (w2.alloc (.cells #[Pz b'] 133));have b3:=Zw a8;have C3:Cells w3 (some ⟨w2.heap.size,0,none⟩) [Pz b']:=a8▸Cells.lit w2 #[Pz b'] _;have cv:=b3.size;have a0:Bz wr w3:=dW bp b3;have a2:=bP HI.row a0;have hlen:bs.length<=21:=by
    have:=HI.h.len;have:=HN.h;have:=O.h.bn;have:=O.h.pd.right.cnt;omega
   have bt:=HI.h.jm.size;rw[<-a8];obtain⟨bR,cF,HR,cH⟩:=mh bp b3 a2 b5;clear a8 b2 bp b3 b5;refine Zm fun K hK=>?_;refine fZ VU a2 (A:=some ⟨w2.heap.size,0,none⟩) (m:=1) (c:=1) (news:=[Pz b']) _ _ rfl rfl rfl rfl bT C3 (by intro u hu;simp at hu;subst hu;rfl) ae ae (bs.length+1) _ rfl rfl ?_;intro A' c' w6 a3;have ba:(Value.slice Ab bs.length cb).ownBlock≠some gc:=fun e=>by
    obtain⟨cur,hc⟩:=bY HR e;exact jY (HI.D.below a0) hc (by decide) rfl
   have k6:w6.heap[gc]?=w3.heap[gc]?:=a3.grown.block gc ae fun e=>ba e.symm;have c6:Cz w6 gc 11 (.slice Ab bs.length cb):=Yd k6 ((HI.D.below a0).cell 11);have z6:Fz w6 gc 11:=(aY (a:=⟨gc,11,none⟩) k6).trans ((HI.D.below a0).frozen 11);have b8:=ao a3;clear a3 C3 a2 a0 hlen b6 b7 cv ba;refine Yo hK ((fun k I=>by rw[show k=gc from I];exact k6)) ?_;refine Yt ?_;refine Zl fun K hK=>?_;go_simp;refine Yl hK ?_;refine aT ?_;have bb:=HI.h.push HM cH bR cF b8;have HF:=ao bb;clear bb;go_wp2_with fail;go_roundw
   case rel=>
    have:=b4.h;exact⟨n+1,_,_,_,_,ae,by go_num,HF⟩
   case measure=>have:=b4.h;simp[intOf];omega
  ·have cQ:n=N:=ae
   subst cQ;have i1:¬((n:Int)<n):=ae;go_wp2_with fail;go_ret;have hI:=HI.h;have bt:=hI.jm.size;have bE:∀k,C.ro k->k<w.heap.size:=fun k I=>O.Ps k I;refine⟨gc,rfl,?_,hI.jm⟩;refine hI.done (HN.h▸O.bn) O.sn (O.pd.same (fun k I ax=>hI.jm.block k ax) bt) _ (fun k I=>⟨hR k I,bE k I⟩) (fun k I=>aA (bE k I) bt) (fun k I=>?_) O.fw O.bw O.pr O.cnt;have dp:=bE k I;refine⟨fun e=>cA hI.lo.1,fun e=>cA hI.lo.2,fun e=>cA ((hI.row.lt k e).1),fun x hx=>cA ((hI.off x k hx).1)⟩
theorem Tryz.Su:(Tryz.prog.info? 2).map (fun i=>(i.zero,i.size,i.bytes))=some (some (Iz 0),1,8):=by kernel_rfl
theorem sL:kA Tryz.prog 23 2 (Iz 0) 1 8:=
 ⟨Tryz.underlying23,let ⟨i,h,D,I,J⟩:=info_parts Tryz.Su;⟨i,h,D,I,J⟩,rfl,ae,ae⟩
def WI (B:Nat) (w1 wx:World) (g:Nat) (P:PD):Prop:=
 ∃ma mc sa sc,aE wx g 25 (P.cells ma mc sa sc)∧iZ wx P ma sa∧(∀k,qP ma k∨qP sa k→w1.heap.size≤k∧k<wx.heap.size)∧Below B w1 wx
theorem jA (l:List Int):∀u∈bZ l,u.oneCell'=true:=by
 intro u hu;unfold bZ at hu;obtain⟨x,_,rfl⟩:=aV.1 hu;rfl
theorem pj {base e:Nat} (h:w.ownsRow base e 1 (.slice A n c) n xs) (D:qP A k):base<=k/\k<w.heap.size:=by
 obtain⟨o,rfl⟩:=D;exact h.lt k rfl
theorem xZ {J:World} {A1:Option Addr} {c1 n1 n2:Nat} (hP:P.gZ) (hg:aE J g 25 (P.cells ma mc sa sc)) (ax:n1=P.E.length) (ay:n2=P.settle.length)
  (hb:Bz J u) (h1:u.ownsRow J.heap.size 3 1 (.slice A1 n1 c1) n1 (bZ P.E)) (h2:u.ownsRow J.heap.size 2 1 (.slice A2 n2 c2) n2 (bZ P.settle)) (hB:B<=g):
  WI B J ((u.setCell ⟨g,1,none⟩ (.slice A1 n1 c1)).setCell ⟨g,10,none⟩ (.slice A2 n2 c2)) g P:=by
 subst ax;subst ay;have a0:=hg.lt;have hs:=hb.size;have key:∀k,k≠g->((u.setCell ⟨g,1,none⟩ (.slice A1 P.E.length c1)).setCell ⟨g,10,none⟩ (.slice A2 P.settle.length c2)).heap[k]?=u.heap[k]?:=fun k D=>by
  rw[av _ _ _ _ D,av _ _ _ _ D]
 have I:((u.setCell ⟨g,1,none⟩ (.slice A1 P.E.length c1)).setCell ⟨g,10,none⟩ (.slice A2 P.settle.length c2)).heap.size=u.heap.size:=bT;refine⟨A1,c1,A2,c2,?_,⟨?_,?_,hP⟩,fun k D=>?_,?_⟩
 ·exact((hg.below hb).set 1 _).set 10 _
 ·refine(Cells.O h1).same (fun k D a2=>key k ?_) (I▸af _)
  have:=pj h1 D;omega
 ·refine(Cells.O h2).same (fun k D a2=>key k ?_) (I▸af _)
  have:=pj h2 D;omega
 ·rw[I]
  rcases D with D|D
  ·exact pj h1 D
  ·exact pj h2 D
 ·exact(((hb.mono (aF hB (po a0))).setCell (p:=⟨g,1,none⟩) hB _).setCell (p:=⟨g,10,none⟩) hB _)
theorem DL (h:B<=u.heap.size) (T:TypeId):(u.alloc (.cells #[] T)).ownsRow B T 1 (.slice (some ⟨u.heap.size,0,none⟩) 0 0) 0 []:=
 cI (base:=B) u #[] 0 h (aB _) rfl
theorem nZ {J:World} {c' m':Nat} (D:lJ u B T 1 x m' ys A' c' J) (h:u.ownsRow B T' 1 v n xs) (I:∀g,v.ownBlock=some g->x.ownBlock≠some g):J.ownsRow B T' 1 v n xs:=
 aX h fun g hg=>D.grown.block g (h.lt g hg).2 fun e=>I g hg e.symm
theorem oa {m:Nat} (h:u.ownsRow B T 1 v n xs) (J:u.ownsRow B T' 1 x m ys) (O:T≠T'):∀g,v.ownBlock=some g->x.ownBlock≠some g:=fun g hg e=>by
 obtain⟨cur,hc⟩:=bY h hg;obtain⟨I,D⟩:=bY J e;rw[hc] at D;injection D with D;injection D with _ h2 _;exact O h2
theorem PR (P:PD) (ma:Option Addr) (mc:Nat) (sa:Option Addr) (sc:Nat) (w:World) (h:iZ w P ma sa):
  Wz 36 #[P.val ma mc sa sc] w fun e w'=> ∃s',e= .returned (.tuple #[Pz s',Iz 0])/\dR w' (qO w w') (qO w w') s' P (Mk.new P).S/\Bz w w':=by
 have hP:=h.right;obtain⟨w0,b7⟩:=Zn (w.alloc (.cells (P.cells ma mc sa sc) 25));obtain⟨g,eg⟩:=Zn w.heap.size;have B0:=Zw b7;have D0:=Zq b7 eg;have h0:=h.below B0;obtain⟨c0,c1,c2,c3,c4,c5,c6,c7,c8,c9,wJ⟩:=fM.gX (w:=w0) (g:=g) D0;obtain⟨H0,eE,ea,HP,EG⟩:=rU h0 D0 B0 hP eg;rw[PD.jt];clear h h0 D0 B0 hP
 go_enter Tryz.func36,Tryz.ntmps36
 go_upto_region 1 with(fail)
 rw[<-b7,<-eg];clear b7 eg;go_wp2_with fail;refine(rC P ma mc sa sc w0 H0.h).mono ?_;rintro e O⟨rfl,b1⟩
 go_upto_region 4 with(fail)
 have D1:=eE.h.below b1;obtain⟨bt,eb⟩:=dF D1 b1;have ed:g<O.heap.size:=D1.lt;have l1:∀u,Below O.heap.size O.drew u->Cz u g 1 (.slice ma P.E.length mc):=fun u hu=>(D1.below ((aS (aa _ _)).trans hu)).cell 1;have ef:∀u,Below O.heap.size O.drew u->Cz u g 10 (.slice sa P.settle.length sc):=fun u hu=>(D1.below ((aS (aa _ _)).trans hu)).cell 10;obtain⟨n1,bH⟩:=Zn P.E.length;obtain⟨n2,bQ⟩:=Zn P.settle.length;rw[<-bH] at l1;rw[<-bQ] at ef;have ei:(bZ P.E).length=n1*1:=by simp[bZ,bH]
 have ej:(bZ P.settle).length=n2*1:=by simp[bZ,bQ]
 have cn:bZ P.E≠[]:=by intro e;have:=congrArg List.length e;have h2:=HP.h.n2;simp[bZ] at this;rw[this] at h2;simp at h2
 have ct:bZ P.settle≠[]:=by intro e;have:=congrArg List.length e;have h2:=HP.h.n2;have h3:=HP.h.vI;simp[bZ] at this;rw[this] at h3;simp at h3;omega
 have eV:n1<=6:=by rw[bH];exact HP.h.n6
 have cQ:n2<=6:=by rw[bQ,HP.h.vI];exact HP.h.n6
 have C1:Cells O ma (bZ P.E):=(H0.h.below b1).m;have C2:Cells O sa (bZ P.settle):=(H0.h.below b1).s;obtain⟨cS,cT,cX,dc,dp,dS,dT,d2⟩:=Dw ei ej cn ct C1 C2 bH bQ;clear c0 c1 c2 c3 c4 c5 c6 c7 c8 c9 wJ D1 b1 ei ej cn ct C1 C2 bH bQ
 go_cut [1] (fun s wx=>s= Pz g/\Hid (WI w.heap.size O wx g P))
 case first=>
  refine oM (R:=Below O.heap.size) 12 [9,10,11] (by kernel_rfl) (by kernel_rfl) ?_;refine kF [1,2,5,6] 8 (fun _ _ _ _ _ h=>h) (by kernel_rfl) (dH.J _ _) ?_;refine Yr ?_;clear l1 ef;obtain⟨u0,d3⟩:=Zn O.drew;have d4:Bz O u0:=by rw[d3];exact aS (aa _ _)
  have bE:O.heap.size<=u0.heap.size:=d4.size;rw[<-d3];clear d3;refine dt [0,4] (dH.tr _) 7 (by kernel_rfl) ?_;refine dh (by rfl) (by rfl) (fun K hK=>?_) ?_
  ·go_simp
   refine Yo hK ((au (aa _ _) _).mono bE) ?_;obtain⟨u1,a7⟩:=Zn (u0.alloc (.cells #[] 3));obtain⟨g0,bR⟩:=Zn u0.heap.size;have r1:=DL bE 3;have d5:=Zw a7;rw[<-a7,<-bR] at r1⊢;clear a7 bR;have a8:=d4.trans (d5.mono bE);have a2:O.heap.size<=u1.heap.size:=a8.size;refine dt [3,4] (dH.tr _) 6 (by kernel_rfl) ?_;refine dh (by rfl) (by rfl) (fun K hK=>?_) ?_
   ·refine fZ sH r1 (A:=ma) (m:=n1) (c:=mc) (news:=bZ P.E) _ _ rfl rfl rfl cS.h cX.h (dp.h.below (a8.mono (bu rfl))) (jA _) (by omega) a2 n1 (bZ P.E) (by omega) (by simp) ?_
    intro A3 c3 u2 I;have a3:Below O.heap.size u1 u2:=I.below _ _ (af _) (aa _ _);have a0:=a8.trans a3;have ba:O.heap.size<=u2.heap.size:=a0.size;replace r1:=I.own;clear I;refine Yo hK (a3) ?_;refine kF [8] 5 (fun _ _ _ _ _ h=>h) (by kernel_rfl) (dH.J _ _) ?_;refine Yr ?_;refine dt [4] (dH.tr _) 4 (by kernel_rfl) ?_;refine dh (by rfl) (by rfl) (fun K hK=>?_) ?_
    ·go_simp
     refine Yo hK ((au (aa _ _) _).mono ba) ?_;obtain⟨u3,d6⟩:=Zn (u2.alloc (.cells #[] 2));obtain⟨g4,a4⟩:=Zn u2.heap.size;have r2:=DL ba 2;have a5:=Zw d6;rw[<-d6,<-a4] at r2⊢;clear d6 a4;have ax:=a0.trans (a5.mono ba);have bU:O.heap.size<=u3.heap.size:=ax.size;replace r1:=bP r1 a5;refine dt [7] (dH.tr _) 3 (by kernel_rfl) ?_;refine dh (by rfl) (by rfl) (fun K hK=>?_) ?_
     ·refine fZ sL r2 (A:=sa) (m:=n2) (c:=sc) (news:=bZ P.settle) _ _ rfl rfl rfl cT.h dc.h (dS.h.below (ax.mono (bu rfl))) (jA _) (by omega) bU n2 (bZ P.settle) (by omega) (by simp) ?_
      intro A7 c7 u4 I;have a6:Below O.heap.size u3 u4:=I.below _ _ (af _) (aa _ _);have ay:=ax.trans a6;have ek:O.heap.size<=u4.heap.size:=ay.size;replace r1:=nZ I r1 (oa r1 r2 (by decide));replace r2:=I.own;clear I;refine Yo hK (a6) ?_;have G:=bt.h.below ay;have f1:Fz u4 g 1:=G.frozen 1;have el:Fz u4 g 10:=G.frozen 10;have q1:Cz u4 g 1 (.slice ma P.E.length mc):=G.cell 1;have eo:Cz u4 g 10 (.slice sa P.settle.length sc):=G.cell 10;have fin:=xZ (B:=w.heap.size) HP.h bt.h dT.h d2.h ay r1 r2 (bu EG.h.symm);have bV:=ao fin;clear fin;refine dz 9 2 (by kernel_rfl) (by rfl) (by rfl) (fun K hK=>?_);go_simp;refine Yl hK ?_;refine dz 10 1 (by kernel_rfl) (by rfl) (by rfl) (fun K hK=>?_);go_simp;refine Yl hK ?_;refine dz 11 0 (by kernel_rfl) (by rfl) (by rfl) (fun K hK=>?_);go_simp;refine Yl hK ?_;refine mK (by kernel_rfl) ?_;go_wp2_with fail;go_meet;exact⟨rfl,bV⟩
     exact dJ
    exact dJ
   refine dh (by rfl) (by rfl) (fun K hK=>?_) ?_
   ·go_simp
    refine Yo hK ((au (aa _ _) _).mono a2) ?_;obtain⟨u2,bb⟩:=Zn (u1.alloc (.cells #[] 2));obtain⟨g4,a4⟩:=Zn u1.heap.size;have r2:=DL a2 2;have a3:=Zw bb;rw[<-bb,<-a4] at r2⊢;clear bb a4;have a0:=a8.trans (a3.mono a2);have ba:O.heap.size<=u2.heap.size:=a0.size;replace r1:=bP r1 a3;refine dt [3] (dH.tr _) 5 (by kernel_rfl) ?_;refine dh (by rfl) (by rfl) (fun K hK=>?_) ?_
    ·refine fZ sH r1 (A:=ma) (m:=n1) (c:=mc) (news:=bZ P.E) _ _ rfl rfl rfl cS.h cX.h (dp.h.below (a0.mono (bu rfl))) (jA _) (by omega) ba n1 (bZ P.E) (by omega) (by simp) ?_
     intro A3 c3 u3 I;have a5:Below O.heap.size u2 u3:=I.below _ _ (af _) (aa _ _);have ax:=a0.trans a5;have bU:O.heap.size<=u3.heap.size:=ax.size;replace r2:=nZ I r2 (oa r2 r1 (by decide));replace r1:=I.own;clear I;refine Yo hK (a5) ?_;refine kF [8] 4 (fun _ _ _ _ _ h=>h) (by kernel_rfl) (dH.J _ _) ?_;refine Yr ?_;refine dt [7] (dH.tr _) 3 (by kernel_rfl) ?_;refine dh (by rfl) (by rfl) (fun K hK=>?_) ?_
     ·refine fZ sL r2 (A:=sa) (m:=n2) (c:=sc) (news:=bZ P.settle) _ _ rfl rfl rfl cT.h dc.h (dS.h.below (ax.mono (bu rfl))) (jA _) (by omega) bU n2 (bZ P.settle) (by omega) (by simp) ?_
      intro A7 c7 u4 I;have a6:Below O.heap.size u3 u4:=I.below _ _ (af _) (aa _ _);have ay:=ax.trans a6;have ek:O.heap.size<=u4.heap.size:=ay.size;replace r1:=nZ I r1 (oa r1 r2 (by decide));replace r2:=I.own;clear I;refine Yo hK (a6) ?_;have G:=bt.h.below ay;have f1:Fz u4 g 1:=G.frozen 1;have el:Fz u4 g 10:=G.frozen 10;have q1:Cz u4 g 1 (.slice ma P.E.length mc):=G.cell 1;have eo:Cz u4 g 10 (.slice sa P.settle.length sc):=G.cell 10;have fin:=xZ (B:=w.heap.size) HP.h bt.h dT.h d2.h ay r1 r2 (bu EG.h.symm);have bV:=ao fin;clear fin;refine dz 9 2 (by kernel_rfl) (by rfl) (by rfl) (fun K hK=>?_);go_simp;refine Yl hK ?_;refine dz 10 1 (by kernel_rfl) (by rfl) (by rfl) (fun K hK=>?_);go_simp;refine Yl hK ?_;refine dz 11 0 (by kernel_rfl) (by rfl) (by rfl) (fun K hK=>?_);go_simp;refine Yl hK ?_;refine mK (by kernel_rfl) ?_;go_wp2_with fail;go_meet;exact⟨rfl,bV⟩
     exact dJ
    exact dJ
   exact dJ
  refine dh (by rfl) (by rfl) (fun K hK=>?_) ?_
  ·go_simp
   refine Yo hK ((au (aa _ _) _).mono bE) ?_;obtain⟨u1,a7⟩:=Zn (u0.alloc (.cells #[] 2));obtain⟨g4,a4⟩:=Zn u0.heap.size;have r2:=DL bE 2;have d5:=Zw a7;rw[<-a7,<-a4] at r2⊢;clear a7 a4;have a8:=d4.trans (d5.mono bE);have a2:O.heap.size<=u1.heap.size:=a8.size;refine dt [0] (dH.tr _) 6 (by kernel_rfl) ?_;refine dh (by rfl) (by rfl) (fun K hK=>?_) ?_
   ·go_simp
    refine Yo hK ((au (aa _ _) _).mono a2) ?_;obtain⟨u2,bb⟩:=Zn (u1.alloc (.cells #[] 3));obtain⟨g0,bR⟩:=Zn u1.heap.size;have r1:=DL a2 3;have a3:=Zw bb;rw[<-bb,<-bR] at r1⊢;clear bb bR;have a0:=a8.trans (a3.mono a2);have ba:O.heap.size<=u2.heap.size:=a0.size;replace r2:=bP r2 a3;refine dt [3] (dH.tr _) 5 (by kernel_rfl) ?_;refine dh (by rfl) (by rfl) (fun K hK=>?_) ?_
    ·refine fZ sH r1 (A:=ma) (m:=n1) (c:=mc) (news:=bZ P.E) _ _ rfl rfl rfl cS.h cX.h (dp.h.below (a0.mono (bu rfl))) (jA _) (by omega) ba n1 (bZ P.E) (by omega) (by simp) ?_
     intro A3 c3 u3 I;have a5:Below O.heap.size u2 u3:=I.below _ _ (af _) (aa _ _);have ax:=a0.trans a5;have bU:O.heap.size<=u3.heap.size:=ax.size;replace r2:=nZ I r2 (oa r2 r1 (by decide));replace r1:=I.own;clear I;refine Yo hK (a5) ?_;refine kF [8] 4 (fun _ _ _ _ _ h=>h) (by kernel_rfl) (dH.J _ _) ?_;refine Yr ?_;refine dt [7] (dH.tr _) 3 (by kernel_rfl) ?_;refine dh (by rfl) (by rfl) (fun K hK=>?_) ?_
     ·refine fZ sL r2 (A:=sa) (m:=n2) (c:=sc) (news:=bZ P.settle) _ _ rfl rfl rfl cT.h dc.h (dS.h.below (ax.mono (bu rfl))) (jA _) (by omega) bU n2 (bZ P.settle) (by omega) (by simp) ?_
      intro A7 c7 u4 I;have a6:Below O.heap.size u3 u4:=I.below _ _ (af _) (aa _ _);have ay:=ax.trans a6;have ek:O.heap.size<=u4.heap.size:=ay.size;replace r1:=nZ I r1 (oa r1 r2 (by decide));replace r2:=I.own;clear I;refine Yo hK (a6) ?_;have G:=bt.h.below ay;have f1:Fz u4 g 1:=G.frozen 1;have el:Fz u4 g 10:=G.frozen 10;have q1:Cz u4 g 1 (.slice ma P.E.length mc):=G.cell 1;have eo:Cz u4 g 10 (.slice sa P.settle.length sc):=G.cell 10;have fin:=xZ (B:=w.heap.size) HP.h bt.h dT.h d2.h ay r1 r2 (bu EG.h.symm);have bV:=ao fin;clear fin;refine dz 9 2 (by kernel_rfl) (by rfl) (by rfl) (fun K hK=>?_);go_simp;refine Yl hK ?_;refine dz 10 1 (by kernel_rfl) (by rfl) (by rfl) (fun K hK=>?_);go_simp;refine Yl hK ?_;refine dz 11 0 (by kernel_rfl) (by rfl) (by rfl) (fun K hK=>?_);go_simp;refine Yl hK ?_;refine mK (by kernel_rfl) ?_;go_wp2_with fail;go_meet;exact⟨rfl,bV⟩
     exact dJ
    exact dJ
   exact dJ
  exact dJ
 obtain⟨rfl,HT⟩:=hcut;obtain⟨bc,bf,bh,bp,D2,ep,er,b2⟩:=HT.h;obtain⟨c0,c1,c2,c3,c4,c5,c6,c7,c8,c9,wJ⟩:=fM.gX (w:=wc) (g:=g) D2;obtain⟨et,eF,b8,eG⟩:=mh ep er b2 D2;clear ep er b2 D2 HT;have eI:∀w:World,(Instr.makeMap 107 none).run Tryz.prog w= .ok (.map (some w.heap.size)) (w.alloc (.map #[] 0)):=fun _=>rfl
 go_upto_region 6 with(fail)
 obtain⟨mb,b9⟩:=Zn wc.heap.size;obtain⟨gc,cd⟩:=Zn (wc.heap.size+1);rw[<-cd,<-b9];obtain⟨w2,b0⟩:=Zn ((wc.alloc (.map #[] 0)).alloc (.cells #[.string (str P.code), .slice bc P.E.length bf,Iz P.tick,Iz P.low,Iz P.high,Iz P.wide,Iz P.rule,Iz P.top,Iz P.least,Iz P.part, .slice bh P.settle.length bp, .slice none 0 0, .map (some mb)] 132));rw[<-b0];have cf:Bz wc w2:=by rw[b0];exact au (au (aa _ _) _) _
 have G2:aE w2 gc 132 (NF.cells ⟨bc,bf,bh,bp,none,0,[],fun _ _=>False,mb,fun _=>none⟩ P):=by
  rw[b0,cd];have h:=heap_alloc_new (wc.alloc (.map #[] 0)) (.cells #[.string (str P.code), .slice bc P.E.length bf,Iz P.tick,Iz P.low,Iz P.high,Iz P.wide,Iz P.rule,Iz P.top,Iz P.least,Iz P.part, .slice bh P.settle.length bp, .slice none 0 0, .map (some mb)] 132);rw[cw] at h;exact h
 have M2:fR w2 mb (fun _=>none) 0:=by
  rw[b9,b0];exact(fR.new wc).below (au (aa _ _) _)
 have I2:TI wc w2 gc mb P bc bf bh bp (fun _=>none) 0 (Mk.new P).S 0 none 0 [] (fun _ _=>False):=
  ⟨G2,aM _ _ _ _,M2,rfl,fun x b M h=>by simp at h,fun x y k h=>h.elim,fun x k h=>h.elim,⟨by rw[cd];omega,by rw[b9];exact af _⟩,cf⟩
 obtain⟨k0,k1,k2,k3,k4,k5,k6,k7,k8,k9,eJ⟩:=fM.gX (w:=w2) (g:=g) (eG.h.below cf);obtain⟨eu,ew⟩:=dF I2 cf;clear c0 c1 c2 c3 c4 c5 c6 c7 c8 c9 wJ I2 M2 G2 cf b0 cd b9 eI;go_wp2_with fail;refine(pP P bc bf bh bp w2 (et.h.below ew.h)).mono ?_;rintro e w3⟨rfl,b3⟩;obtain⟨N,eN⟩:=Zn P.count;have eR:N<=21:=by rw[eN];exact HP.h.cnt.1
 have HN:=ao eN;rw[<-eN];have I3:TI wc w3 gc mb P bc bf bh bp (fun _=>none) 0 (Mk.new P).S 0 none 0 [] (fun _ _=>False):=
  have hI:=eu.h
  ⟨hI.D.below b3,aM _ _ _ _,hI.mp.below b3,rfl,fun x b M h=>by simp at h,fun x y k h=>h.elim,fun x k h=>h.elim,hI.lo,dW hI.jm b3⟩
 have eK:=ao I3;clear I3 b3 eu k0 k1 k2 k3 k4 k5 k6 k7 k8 k9 eJ eN;go_wp2_with fail
 go_loopw [27] (fun v wr=> ∃(n:Nat) (Ab:Option Addr) (cb:Nat) (bs:List Nat) (Fs:Nat->Nat->Prop),n<=N/\v= Iz (n:Int)/\Hid (TI wc wr gc mb P bc bf bh bp (fun _=>none) 0 (Mk.new P).S n Ab cb bs Fs)) (fun v _=>N - (intOf v).toNat)
 case atStart=>exact⟨0,_,_,_,_,aB _,rfl,eK⟩
 case round=>
  obtain⟨n,Ab,cb,bs,Fs,hn,rfl,HI⟩:=hrel
  by_cases ck:n<N
  ·have i1:(n:Int)<N:=by omega
   have ey:=HI.h.D;have eL:∀u,aI (fun k=>k=gc) wr.drew u->Cz u gc 11 (.slice Ab bs.length cb):=fun u hu=>(hu.cell (b:=gc) (i:=11) rfl).trans (ey.cell 11);have cl:=ao ck;clear hn ck ey
   go_upto_region 8 with(fail)
   refine bx (R:=aI fun k=>k=gc) 10 [5,6,7,10] [0,1,2,3,4,5,6,7,8,9,10] (by kernel_rfl) (aI.tr _) (aI.J _) (by kernel_rfl) (fun _ _ _ _ _ h=>h) ?_;refine Yt ?_;clear eL;refine Ym fun K hK=>?_;refine(Sd _).mono ?_;rintro e w2⟨b',rfl,cQ,b2⟩;have ed:gc<wr.heap.size:=HI.h.D.lt;refine Yo hK ((fun k hk=>by rw[show k=gc from hk];exact b2.block gc ed)) ?_;have ez:=b2.size;have eA:wr.heap.size<=w2.heap.size:=ez;have d7:Bz wr w2:=(aS (aa _ _)).trans b2;refine Yt ?_;refine Ym fun K hK=>?_;refine Yo hK ((fun k hk=>by rw[show k=gc from hk];exact(au (aa w2.heap.size w2) _).block gc (by omega))) ?_;obtain⟨w3,cm⟩:=Zn (w2.alloc (.cells #[Pz b'] 133));have b3:=Zw cm;have C3:Cells w3 (some ⟨w2.heap.size,0,none⟩) [Pz b']:=by rw[cm];exact Cells.lit w2 #[Pz b'] _
   have eM:=b3.size;have b4:Bz wr w3:=dW d7 b3;have b5:=bP HI.h.row b4;have hlen:bs.length<=21:=by
    have:=HI.h.len;have:=cl.h;omega
   have d8:=HI.h.jm.size;rw[<-cm];obtain⟨b8,eO,HR,eP⟩:=mh d7 b3 b5 cQ;clear cm b2 d7 b3 cQ;refine Zm fun K hK=>?_;refine fZ VU b5 (A:=some ⟨w2.heap.size,0,none⟩) (m:=1) (c:=1) (news:=[Pz b']) _ _ rfl rfl rfl rfl (by simp) C3 (by intro u hu;simp at hu;subst hu;rfl) (by omega) (by omega) (bs.length+1) _ rfl rfl ?_;intro A' c' w6 b6;have cv:(Value.slice Ab bs.length cb).ownBlock≠some gc:=fun e=>by
    obtain⟨cur,hc⟩:=bY HR.h e;exact jY (HI.h.D.below b4) hc (by decide) rfl
   have k6:w6.heap[gc]?=w3.heap[gc]?:=b6.grown.block gc (by omega) fun e=>cv e.symm;have c6:Cz w6 gc 11 (.slice Ab bs.length cb):=Yd k6 ((HI.h.D.below b4).cell 11);have z6:Fz w6 gc 11:=(aY (a:=⟨gc,11,none⟩) k6).trans ((HI.h.D.below b4).frozen 11);have eB:=ao b6;clear b6 C3 b5 b4 hlen ez eA eM cv;refine Yo hK ((fun k hk=>by rw[show k=gc from hk];exact k6)) ?_;refine Yt ?_;refine Zl fun K hK=>?_;go_simp;refine Yl hK ?_;refine aT ?_;have hM:(Mk.new P).S[n]?=some ⟨[],[]⟩:=by
    have h1:=cl.h;have h2:=HN.h;show(List.replicate P.count (⟨[],[]⟩:BM))[n]?=_;rw[gM,if_pos (by omega)]
   have cF:=HI.h.push hM eP.h b8.h eO.h eB.h;have HF:=ao cF;clear cF hM;go_wp2_with fail;go_roundw
   case rel=>
    have:=cl.h;exact⟨n+1,_,_,_,_,by omega,by go_num,HF⟩
   case measure=>have:=cl.h;simp[intOf];omega
  ·have eQ:n=N:=by omega
   subst eQ;have i1:¬((n:Int)<n):=by omega
   go_wp2_with fail
   go_ret2
   have hI:=HI.h;have d8:=hI.jm.size;have hS:(Mk.new P).S.length=P.count:=List.length_replicate ..;have hc:cK (Mk.new P).S=0:=by
    show((List.replicate P.count (⟨[],[]⟩:BM)).map _).sum=0;rw[List.map_replicate];show(List.replicate P.count 0).sum=0;exact List.sum_replicate_nat.trans (Nat.mul_zero _)
   have cH:∀(x:Nat) (M:BM),(Mk.new P).S[x]?=some M->M=⟨[],[]⟩:=fun x M h=>by
    have h':(List.replicate P.count (⟨[],[]⟩:BM))[x]?=some M:=h;rw[gM] at h'
    split at h'<;>simp at h'
    exact h'.symm
   have eC:w.heap.size<=w0.heap.size:=ea.h.size;have eS:w0.heap.size<=O.heap.size:=eb.h.size;have eT:O.heap.size<=wc.heap.size:=b8.h.size;have eU:wc.heap.size<=wr.heap.size:=d8;have BB:Bz w wr:=((ea.h.trans (eb.h.mono eC)).trans b8.h).trans (hI.jm.mono (by omega));refine⟨gc,rfl,?_,BB⟩;have eD:=hI;rw[<-hc] at eD;have d9:=eF.h;have fin:=eD.done HN.h hS (et.h.same (fun k hk ck=>hI.jm.block k ck) d8) (qO w wr) (fun k hk=>by have:=d9 k hk;exact⟨by omega,by omega⟩) (fun k hk=>by have:=d9 k hk;omega) (fun k hk=>by
    have eW:=d9 k hk;refine⟨fun e=>by have:=hI.lo.1;omega,fun e=>by have:=hI.lo.2;omega,fun e=>by have:=(hI.row.lt k e).1;omega,fun x hx=>by have:=(hI.off x k hx).1;omega⟩)
    (fun x M e h1 h2=>by rw[cH x M h1] at h2;exact absurd (show e∈([]:List dn) from h2) (by simp)) (fun id v h=>by cases h) (fun x k M r h1 h2=>by rw[cH x M h1] at h2;unfold BM.side at h2;split at h2<;>simp at h2) (by rw[hc];omega)
   exact fin.mono (fun k h1 h2=>⟨by have:=h1.1;omega,h1.2⟩) (fun k h=>h)
theorem JB:∀(L:List zJ),(∀y∈L,1<=y.st.aw)->0<=(L.map (·.st.aw)).sum
 |[],_=>bT
 |y::L,h=>by
  have:=JB L fun z D=>h z (bB _ D);have:=h y (cg ..);simp only[aW,cN];omega
theorem LY (s:Nat) (P:PD) (S:Sm) (G R:Nat->Prop) (x k:Nat) (sd ag aw:Int) (w:World) (h:dR w G R s P S) (hx:x<P.count) (hk:k<2) (J:sd=(k:Int)+1) (hq:1<=aw/\aw<=1000000):
  Wz 34 #[Pz s,Iz (x:Int),Iz sd,Iz ag,Iz aw] w fun e w'=>e= .returned (Iz (ng P S x k ag aw))/\Bz w w':=by
 have O:1<=sd/\sd<=2:=by omega
 obtain⟨H,ay⟩:=dF h J;clear h J
 go_enter Tryz.func34,Tryz.ntmps34
 go_wp2_with fail;refine(Fl s P S G R x sd aw w H.h hx O hq).mono ?_;rintro e u⟨rfl,rfl⟩;go_wp2_with fail;refine(yO s P S G R w H.h).mono ?_;rintro e w1⟨s',rfl,a0,b1⟩;go_wp2_with fail;refine(GF s' P S _ _ x k sd ag aw w1 a0 hx hk ay.h hq).mono ?_;rintro e w2⟨A,c,L,G',rfl,I⟩;have hb:Bz w w2:=b1.trans (I.lv.below (fun j hj=>hj.1) b1.size);have h0:=I.l0;have D:=I.sm;have ax:=JB L I.qs;obtain⟨left,el⟩:=Zn ((dV P aw.toNat S x k ag aw).2.2);have hc:ng P S x k ag aw=aw - left:=by rw[el];rfl
 rw[<-el];rw[<-el] at h0 D;obtain⟨HB,HT,HC⟩:=fY hb I hc;have a2:left<=1000000:=by omega
 clear I hb D ax el hc;go_wp2_with fail;go_ret;exact⟨by rw[HC.h];first|rfl|(rw[Yw ⟨by omega,hq.2⟩ ⟨h0,a2⟩]),HB.h⟩
theorem CK (s:Nat) (P:PD) (S:Sm) (G R:Nat->Prop) (x k:Nat) (sd ag aw:Int) (w:World) (h:dR w G R s P S) (hx:x<P.count) (hk:k<2) (bf:sd=(k:Int)+1) (hq:1<=aw/\aw<=1000000):
  Wz 69 #[Pz s,Iz (x:Int),Iz sd,Iz ag,Iz aw] w fun e w'=>e= .returned (.bool (lV P S x k ag aw))/\Bz w w':=by
 have bh:1<=sd/\sd<=2:=by omega
 obtain⟨H,a8⟩:=dF h bf;clear h bf
 go_enter Tryz.func69,Tryz.ntmps69
 go_wp2_with fail;refine(yO s P S G R w H.h).mono ?_;rintro e w1⟨s',rfl,bp,b1⟩;go_wp2_with fail;refine(GF s' P S _ _ x k sd ag aw w1 bp hx hk a8.h hq).mono ?_;rintro e I⟨A,c,L,G',rfl,hT⟩;have hb:Bz w I:=b1.trans (hT.lv.below (fun j hj=>hj.1) b1.size);have ay:=hT.st;obtain⟨res,J⟩:=Zn (dV P aw.toNat S x k ag aw);have a0:lV P S x k ag aw=(res.2.2 !=0 && (mG P.n (lU res.1) x (1 - k)).any fun q=>lp k ag q.ag):=by rw[J];rfl
 rw[<-J];rw[<-J] at ay;clear hT J bp b1;obtain⟨S2,ba⟩:=Zn res.1;obtain⟨left,el⟩:=Zn res.2.2;rw[<-el];rw[<-ba] at ay;rw[<-ba,<-el] at a0;have a6:=ao a0;clear ba el a0;have HB:=ao hb;clear hb
 by_cases hz:left=0
 ·subst hz
  clear ay;go_wp2_with fail;go_ret;exact⟨by rw[a6.h];rfl,HB.h⟩
 ·have bt:(left==0)=false:=by simpa using hz
  have bE:(left !=0)=true:=by simpa using hz
  obtain⟨qs,eqs⟩:=Zn (mG P.n (lU S2) x (1 - k));have bH:lV P S x k ag aw=qs.any fun q=>lp k ag q.ag:=by rw[a6.h,bE,Bool.true_and,eqs]
  have b6:qs.length<=1000:=by rw[eqs];have:=Cx P.n (lU S2) x (1 - k);have:=H.h.right.cnt;have:=H.h.right.n6;show _<=_;unfold PD.n at*;omega
  have bQ:=ay;obtain⟨C,hS,cH,cQ,hR⟩:=bQ;have b7:s'<I.heap.size:=hS.D.lt;obtain⟨k0,k1,k2,k3,k4,k5,k6,k7,k8,k9,bR,b8,b9⟩:=hS.gX;have st:∀{u:World} {i:Nat} {v:Value},aR I.drew u->Cz I s' i v->Cz u s' i v:=fun {u i v} hu hv=>Yb hu b7 hv;have d0:=fun u (hu:aR I.drew u)=>st hu k0;have d1:=fun u (hu:aR I.drew u)=>st hu k1;have d2:=fun u (hu:aR I.drew u)=>st hu k2;have d3:=fun u (hu:aR I.drew u)=>st hu k3;have d4:=fun u (hu:aR I.drew u)=>st hu k4;have d5:=fun u (hu:aR I.drew u)=>st hu k5;have d6:=fun u (hu:aR I.drew u)=>st hu k6;have d7:=fun u (hu:aR I.drew u)=>st hu k7;have d8:=fun u (hu:aR I.drew u)=>st hu k8;have d9:=fun u (hu:aR I.drew u)=>st hu k9;have cd:=fun u (hu:aR I.drew u)=>st hu bR;obtain⟨cf,ck,cl,cS,bU,cm⟩:=FW ay hS.pd eqs bt bH hS.WD;clear ay hS st k0 k1 k2 k3 k4 k5 k6 k7 k8 k9 bR b8 b9 hz bE eqs bH
  go_upto_region 5 with(fail)
  clear bt;refine Zg [5,8,9] [0,1,2,3,4,6,7,11,5,8,9,10] ?_;refine Yt ?_;clear d0 d1 d2 d3 d4 d5 d6 d7 d8 d9 cd;refine Ym fun K hK=>?_;refine(vr s' P S2 _ _ _ (cf.h.below (aS (aa _ _)))).mono ?_;rintro e w3⟨A1,c1,rfl,a7,b1⟩;refine Yo hK (b1) ?_;have cn:=ao (dP.O a7);have B3:Bz I w3:=(aS (aa _ _)).trans b1;have bV:=ao B3;clear b1 a7 B3;refine Yt ?_;refine Ym fun K hK=>?_;refine(wV sd _ bh).mono ?_;rintro e u⟨rfl,rfl⟩;refine Yo hK (aa _ _) ?_;refine Yt ?_;refine Ym fun K hK=>?_;refine(NI P C.ma C.mc C.sa C.sc A1 c1 (lU S2) x (1 - k) (3 - sd) _ (ck.h.below bV.h) cn.h hx (by omega) (by have:=a8.h;omega) cm.h).mono ?_;rintro e w4⟨A2,c2,rfl,a2,b2⟩;rw[<-cl.h] at a2⊢;refine Yo hK (b2) ?_;obtain⟨ct,b0⟩:=dF (dP.O a2) (dW bV.h b2);obtain⟨N,eN⟩:=Zn qs.length;rw[<-eN] at b6⊢;have HN:=ao eN;clear a2 b2 eN;refine Yt ?_;refine aT ?_;go_wp2_with fail
  go_loopw [40] (fun v wr=> ∃m:Nat,m<=N/\v= Iz (m:Int)/\Hid ((∀q∈qs.take m,lp k ag q.ag=false)/\Bz w4 wr)) (fun v _=>N - (intOf v).toNat)
  case atStart=>exact⟨0,aB _,rfl,ao ⟨fun q hq=>by simp at hq,aa _ _⟩⟩
  case round=>
   obtain⟨m,hm,rfl,HM⟩:=hrel;obtain⟨ax,hB⟩:=HM.h
   by_cases a4:m<N
   ·obtain⟨b',o',q,rfl,cT,c0,c1,c2,c3,c4,c5,hq⟩:=Cy (ct.h.below hB) (m:=m) (by rw[<-HN.h];exact a4)
    have i1:(m:Int)<N:=by omega
    obtain⟨a3,bb,b3⟩:=fY ax hB a4;clear ax hB HM a4 hm;go_wp2_with fail;obtain⟨wq,bc⟩:=Zn (wr.alloc (.cells #[Iz q.ag,Iz q.aw,Iz (q.i0:Int),Iz ((q.k0:Int)+1),Iz (q.i1:Int),Iz ((q.k1:Int)+1)] 178));have BQ:=Zw bc;have b4:=ao (dW bb.h BQ);rw[<-bc];clear bc BQ c0 c1 c2 c3 c4 c5;refine(Fk sd ag q.ag k wq hk a8.h).mono ?_;rintro e u⟨rfl,rfl⟩;obtain⟨z,ez⟩:=Zn (lp k ag q.ag);rw[<-ez]
    cases z
    ·have cv:=ao ez
     clear ez;go_wp2_with fail;go_roundw
     case rel=>
      refine⟨m+1,by have:=b3.h;omega,by go_num,ao ⟨fun q' b5=>?_,b4.h⟩⟩;rw[bC,hq.h] at b5;rcases aJ.1 b5 with h1|h1
      ·exact a3.h q' h1
      ·have h2:q'=q:=by simpa using h1
       subst h2;exact cv.h.symm
     case measure=>have:=b3.h;simp[intOf];omega
    ·have a5:(qs.any fun q=>lp k ag q.ag)=true:=List.any_eq_true.2 ⟨q,aH hq.h,ez.symm⟩
     have cF:=ao a5;clear ez a5;go_wp2_with fail;go_ret;exact⟨by rw[bU.h,cF.h];rfl,HB.h.trans ((dW b0.h b4.h).mono HB.h.size)⟩
   ·obtain rfl:m=N:=by omega
    have i1:¬((m:Int)<m):=by omega
    obtain⟨a3,bb⟩:=dF ax hB;clear ax hB HM a4 hm;go_wp2_with fail;go_ret;have a5:(qs.any fun q=>lp k ag q.ag)=false:=by
     rw[List.any_eq_false];intro q hq;have:=a3.h q (by rw[HN.h,dE];exact hq);simp[this]
    exact⟨by rw[bU.h,a5];rfl,HB.h.trans ((dW b0.h bb.h).mono HB.h.size)⟩
theorem PD.UC (P:PD) (ma:Option Addr) (mc:Nat) (sa:Option Addr) (sc:Nat) (w:World):∃w0 g,w0=w.alloc (.cells (P.cells ma mc sa sc) 25)/\g=w.heap.size/\fM w0 g P ma mc sa sc/\Bz w w0:=by
 refine⟨_,_,rfl,rfl,?_,?_⟩
 ·exact heap_alloc_new _ _
 ·exact au (aa _ _) _
theorem JC (P:PD) (ma:Option Addr) (mc:Nat) (sa:Option Addr) (sc:Nat) (x:Nat) (ag:Int) (w:World) (h:iZ w P ma sa) (hx:x<P.count) (hn:P.n<=x) (hw:P.fy x ag=0):
  Wz 171 #[P.val ma mc sa sc,Iz (x:Int),Iz ag] w fun e w'=>e= .returned (.tuple #[Iz (lu P x ag).1,Iz (lu P x ag).2,Iz 0])/\Bz w w':=by
 have hP:=h.right;obtain⟨w0,g,a7,eg,D0,B0⟩:=PD.UC P ma mc sa sc w;have h0:=h.below B0;have a2:P.oY (x:Int) ag=0:=by
  unfold PD.oY;rw[if_neg ae,show(x:Int).toNat=x by simp];exact hw
 have a3:decide (P.n<=x)=true:=by simpa using hn
 have O:=BS P.n (by have:=hP.n6;unfold PD.n;omega) x (cA hP.cnt) hn hx;obtain⟨j,ej⟩:=Zn ((cy P.n x).2);have hj:j<P.settle.length:=by rw[ej,hP.vI];have:=O.2.1;unfold PD.n at this;exact this
 obtain⟨D,J⟩:∃D,P.settle[j]?=some D:=⟨_,aj hj⟩;have a8:P.settle.getD j 0=D:=by rw[jI,J];rfl
 have b4:=hP.KY D (aH J);have b5:=hP.I7;have b6:=hP.zl;have b7:=hP.ag hw;have I:lu P x ag=if (if P.high<D+ag then (P.high,P.high - ag) else (D+ag,D)).1<P.low then (P.low,P.low - ag) else (if P.high<D+ag then (P.high,P.high - ag) else (D+ag,D)):=by
  unfold lu;rw[<-ej,a8]
 obtain⟨m,n6,em⟩:∃m n6:Nat,m=P.E.length/\n6=P.settle.length:=⟨_,_,rfl,rfl⟩;obtain⟨p1,p2, -⟩:=b7;obtain⟨-,f1,f2⟩:=b4;have ba:=hP.lh;obtain⟨H0,bb,bc,bf,bh,EJ,ax,bp,HJ⟩:=QG h0 D0 B0 a2 a3 ej I J hj;obtain⟨hi,a4⟩:=Zn P.high;obtain⟨lo,a5⟩:=Zn P.low;rw[<-a4] at b6 ba f2;rw[<-a5] at b5 ba f1;obtain⟨ay,a0⟩:=dF a4 a5;rw[PD.jt];clear h h0 D0 B0 hP a2 a3 ej I J hj O a8 a4 a5 hw hn em
 go_enter Tryz.func171,Tryz.ntmps171
 go_upto_region 1 with(fail)
 rw[<-a7,<-eg];clear a7 eg;obtain⟨c0,c1,c2,c3,c4,c5,c6,c7,c8,c9,wJ⟩:=fM.gX bb;go_wp2_with fail;clear c0 c1 c2 c3 c4 c5 c6 c7 c8 c9 wJ;refine(rC P ma mc sa sc w0 H0).mono ?_;rintro e w1⟨rfl,b1⟩;obtain⟨bt,bE,bH⟩:=fY (H0.below b1) (bb.below b1) (bc.trans (b1.mono bc.size));clear b1;obtain⟨c0,c1,c2,c3,c4,c5,c6,c7,c8,c9,wJ⟩:=fM.gX bE;go_wp2_with fail;clear c0 c1 c2 c3 c4 c5 c6 c7 c8 c9 wJ;refine(rD P ma mc sa sc x w1 bt hx).mono ?_;rintro e w2⟨rfl,b2⟩;rw[bh.h,<-EJ.h];obtain⟨bQ,bR,bU⟩:=fY (bt.below b2) (bE.below b2) (bH.trans (b2.mono bH.size));clear b2;obtain⟨c0,c1,c2,c3,c4,c5,c6,c7,c8,c9,wJ⟩:=fM.gX bR;go_wp2_with fail;clear c0 c1 c2 c3 c4 c5 c6 c7 c8 c9 wJ;refine(pQ P ma mc sa sc (x:Int) ag w2 bQ).mono ?_;rintro e w3⟨rfl,b3⟩;rw[bf.h];obtain⟨b8,b9,a6⟩:=fY (bQ.below b3) (bR.below b3) (bU.trans (b3.mono bU.size));clear b3;obtain⟨c0,c1,c2,c3,c4,c5,c6,c7,c8,c9,wJ⟩:=fM.gX b9;rw[<-ay.h] at c4;rw[<-a0.h] at c3;obtain⟨b,o,fx,eA,hb,hc,bV⟩:=b8.h.s.jK (k:=j) HJ;obtain rfl:fx=D:=by have:=bV.h;rw[bp.h] at this;injection this with this;exact this.symm
 rw[eA] at wJ;obtain⟨n6,b0⟩:=Zn P.settle.length;have cd:(j:Int)<n6:=cA HJ.h;rw[<-b0] at wJ;clear bV eA b0;have I:∀a b:Int,lu P x ag=(a,b)->(.tuple #[Iz (lu P x ag).1,Iz (lu P x ag).2,Iz 0]:Value)= .tuple #[Iz a,Iz b,Iz 0]:=fun a b h=>by rw[h]
 have HR:=ao I;clear I
 by_cases h1:hi<fx+ag
 ·by_cases h2:hi<lo
  ·omega
  ·have O:lu P x ag=(hi,hi - ag):=by
    rw[ax.h,<-ay.h,<-a0.h,if_pos h1];simp only;rw[if_neg h2]
   have HL:=ao O;clear O;go_wp2_with fail
   go_quiet (fail)
   go_wp2_with fail
   go_ret3
   exact⟨by rw[HL.h];rfl,below_drewN a6 _⟩
 ·by_cases h2:fx+ag<lo
  ·have O:lu P x ag=(lo,lo - ag):=by
    rw[ax.h,<-ay.h,<-a0.h,if_neg h1];simp only;rw[if_pos h2]
   have HL:=ao O;clear O;go_wp2_with fail
   go_quiet (fail)
   go_wp2_with fail
   go_ret3
   exact⟨by rw[HL.h];rfl,below_drewN a6 _⟩
  ·have O:lu P x ag=(fx+ag,fx):=by
    rw[ax.h,<-ay.h,<-a0.h,if_neg h1];simp only;rw[if_neg h2]
   have HL:=ao O;clear O;go_wp2_with fail
   go_ret3
   exact⟨by rw[HL.h];rfl,a6⟩
theorem Tryz.Sv:(Tryz.prog.info? 40).map (fun i=>(i.zero,i.size,i.bytes))=some (some (.agg #[Iz 0,Iz 0,Iz 0,Iz 0,Iz 0,Iz 0,Iz 0,Iz 0]),8,64):=by kernel_rfl
theorem yP:kA Tryz.prog 32 40 (.agg #[Iz 0,Iz 0,Iz 0,Iz 0,Iz 0,Iz 0,Iz 0,Iz 0]) 8 64:=
 ⟨Tryz.underlying32,let ⟨i,h,D,I,J⟩:=info_parts Tryz.Sv;⟨i,h,D,I,J⟩,rfl,ae,ae⟩
def ir.cells (r:ir):List Value:=[Iz r.kind,Iz r.id,Iz r.inst,Iz r.side,Iz r.ag,Iz r.aw,Iz r.left,Iz r.fy]
def ir.val (r:ir):Value:= .agg r.cells.toArray
theorem ir.bG (r:ir):r.cells.length=8:=rfl
def fC (l:List ir):List Value:=l.flatMap ir.cells
theorem iL (l:List ir):(fC l).length=l.length*8:=dX ir.bG l
theorem rJ (l m:List ir):fC (l++m)=fC l++fC m:=by simp[fC]
theorem x9 (l:List ir):∀u∈fC l,u.oneCell'=true:=tJ (fun f u hu=>by
 unfold ir.cells at hu;simp at hu;rcases hu with rfl|rfl|rfl|rfl|rfl|rfl|rfl|rfl<;>rfl) l
def lD (B:Nat) (w:World) (A:Option Addr) (c:Nat) (l:List ir):Prop:=w.ownsRow B 40 8 (.slice A l.length c) l.length (fC l)
def Ah (P:PD) (ma:Option Addr) (mc:Nat) (sa:Option Addr) (sc:Nat) (s ub:Nat):Array Value:=
 #[.string (str P.code), .slice ma P.E.length mc,Iz P.tick,Iz P.low,Iz P.high,Iz P.wide,Iz P.rule,Iz P.top,Iz P.least,Iz P.part, .slice sa P.settle.length sc, Pz s, .map (some ub)]
structure JD (w:World) (g:Nat) (P:PD) (ma:Option Addr) (mc:Nat) (sa:Option Addr) (sc:Nat) (s ub:Nat):Prop where
 D:aE w g 90 (Ah P ma mc sa sc s ub)
 pd:iZ w P ma sa
theorem JD.below (h:JD w g P ma mc sa sc s ub) (I:Bz w w'):JD w' g P ma mc sa sc s ub:=⟨h.D.below I,h.pd.below I⟩
theorem JD.drew (h:JD w g P ma mc sa sc s ub):JD w.drew g P ma mc sa sc s ub:=⟨h.D.drew,h.pd.drew⟩
theorem JD.cells (h:JD w g P ma mc sa sc s ub):
  w.cell? ⟨g,0,none⟩=some (.string (str P.code))/\w.cell? ⟨g,1,none⟩=some (.slice ma P.E.length mc)/\w.cell? ⟨g,2,none⟩=some (Iz P.tick)/\w.cell? ⟨g,3,none⟩=some (Iz P.low)/\w.cell? ⟨g,4,none⟩=some (Iz P.high)/\w.cell? ⟨g,5,none⟩=some (Iz P.wide)/\
  w.cell? ⟨g,6,none⟩=some (Iz P.rule)/\w.cell? ⟨g,7,none⟩=some (Iz P.top)/\w.cell? ⟨g,8,none⟩=some (Iz P.least)/\w.cell? ⟨g,9,none⟩=some (Iz P.part)/\w.cell? ⟨g,10,none⟩=some (.slice sa P.settle.length sc)/\w.cell? ⟨g,11,none⟩=some (Pz s)/\w.cell? ⟨g,12,none⟩=some (.map (some ub)):=
 ⟨h.D.cell 0,h.D.cell 1,h.D.cell 2,h.D.cell 3,h.D.cell 4,h.D.cell 5,h.D.cell 6,h.D.cell 7,h.D.cell 8,h.D.cell 9,h.D.cell 10,h.D.cell 11,h.D.cell 12⟩
theorem GI (c:bN) (fy:Int) (w:World):Wz 38 #[c.val,Iz fy] w fun e w'=> ∃A cp,e= .returned (.slice A 1 cp)/\lD w.heap.size w' A cp (mH c.id fy)/\Bz w w':=by
 rw[show c.val= .agg c.cells from rfl]
 go_enter Tryz.func38,Tryz.ntmps38
 go_upto_region 1 with(fail)
 obtain⟨w0,D⟩:=Zn (w.alloc (.cells c.cells 35));obtain⟨g,I⟩:=Zn w.heap.size;have J:kM w0 g c:=D▸I▸kM.new w c;have B0:=Zw D;have c1:Cz w0 g 1 (Iz c.id):=J.cell 1;rw[<-D,<-I];clear D I J;go_wp2_with fail;go_ret;refine⟨some ⟨w0.heap.size,0,none⟩,1,rfl,?_,au B0 _⟩;exact cI (base:=w.heap.size) (size:=8) w0 #[Iz 2,Iz c.id,Iz 0,Iz 0,Iz 0,Iz 0,Iz 0,Iz fy] 1 B0.size (by unfold maxLen;omega) rfl
theorem UD (g:Nat) (P:PD) (ma:Option Addr) (mc:Nat) (sa:Option Addr) (sc:Nat) (s ub:Nat) (x:Nat) (w:World) (h:JD w g P ma mc sa sc s ub) (hx:x<P.count):
  Wz 144 #[Pz g,Iz (x:Int)] w fun e w'=>e= .returned (.bool (decide (P.n<=x)))/\Bz w w':=by
 obtain⟨k0,k1,k2,k3,k4,k5,k6,k7,k8,k9,I,J,O⟩:=h.cells;have HP:=ao h.pd;obtain⟨b,D⟩:=Zn (decide (P.n<=x));have HB:=ao D;clear h;rw[<-D];clear D
 go_enter Tryz.func144,Tryz.ntmps144
 go_wp2_with fail;refine(rD P ma mc sa sc x w HP.h hx).mono ?_;rintro e w1⟨rfl,b1⟩;rw[<-HB.h];go_wp2_with fail;go_ret;exact⟨rfl,b1⟩
theorem JE (h:Cells w A (gW l)) {m:Nat} (hm:m<l.length):
  ∃b o q,A=some ⟨b,o,none⟩/\b<w.heap.size/\w.cell? ⟨b,o+m*6,none⟩=some (Iz q.id)/\w.cell? ⟨b,o+m*6+1,none⟩=some (Iz (q.inst:Int))/\w.cell? ⟨b,o+m*6+2,none⟩=some (Iz ((q.k:Int)+1))/\w.cell? ⟨b,o+m*6+3,none⟩=some (Iz q.ag)/\w.cell? ⟨b,o+m*6+4,none⟩=some (Iz q.aw)/\w.cell? ⟨b,o+m*6+5,none⟩=some (Iz q.left)/\Hid (l[m]?=some q):=by
 have I:=mr l;have D:gW l≠[]:=by intro e;rw[e] at I;simp at I;omega
 obtain⟨b,o,rfl,J,hc⟩:=h D;have hr:l[m]?=some l[m]:=aj hm;have key:∀(j:Nat) (v:Value),j<6->(l[m]).cells[j]?=some v->Cz w b (o+m*6+j) v:=fun j v O hv=>by
  rw[bg];exact hc _ _ ((ig fG.bG j O hr).trans hv)
 exact⟨b,o,l[m],rfl,J,key 0 _ ae rfl,key 1 _ ae rfl,key 2 _ ae rfl,key 3 _ ae rfl,key 4 _ ae rfl,key 5 _ ae rfl,hr⟩
structure sM (w:World) (g:Nat) (y:zJ):Prop where
 D:aE w g 186 y.cells.toArray
 fl:Cells w y.A (gW y.st.U)
theorem sM.below (h:sM w g y) (I:Bz w w'):sM w' g y:=⟨h.D.below I,h.fl.below I⟩
theorem sM.four (h:sM w g y):w.cell? ⟨g,0,none⟩=some (Iz y.st.ag)/\w.cell? ⟨g,1,none⟩=some (Iz y.st.aw)/\w.cell? ⟨g,2,none⟩=some (.bool y.st.imp)/\w.cell? ⟨g,3,none⟩=some (.slice y.A y.st.U.length y.c):=
 ⟨h.D.cell 0,h.D.cell 1,h.D.cell 2,h.D.cell 3⟩
theorem L9 {m:Nat} {f:fG} (hf:l[m]?=some f) (h:∀g∈l.take m,p g=false) (hp:p f=true):l.find? p=some f:=by
 induction l generalizing m with
 |nil=>simp at hf
 |cons a l D=>
  cases m with
  |zero=>simp at hf;subst hf;simp[hp]
  |succ m=>
   have I:=h a bT;rw[List.find?_cons,I];exact D (by simpa using hf) (fun g hg=>h g (by simp[hg]))
theorem Fv (g:Nat) (y:zJ) (x:Nat) (w:World) (h:sM w g y) (hx:x<100) (hl:y.st.U.length<=500):
  Wz 172 #[Iz (x:Int), Pz g] w fun e w'=>e= .returned (Iz (jq y.st.U y.st.ag x))/\Bz w w':=by
 obtain⟨k0,k1,k2,k3⟩:=h.four;obtain⟨HF,HH⟩:=dF h.fl h;have a5:g<w.heap.size:=h.D.lt;obtain⟨N,eN⟩:=Zn y.st.U.length;rw[<-eN] at hl k3;have HN:=ao eN;clear h eN
 go_enter Tryz.func172,Tryz.ntmps172
 go_wp2_with fail
 go_loopw [9] (fun v wr=> ∃m:Nat,m<=N/\v= Iz (m:Int)/\Hid ((∀f∈y.st.U.take m,(f.inst==x)=false)/\Bz w wr)) (fun v _=>N - (intOf v).toNat)
 case atStart=>exact⟨0,aB _,rfl,ao ⟨fun q hq=>by simp at hq,aa _ _⟩⟩
 case round=>
  obtain⟨m,hm,rfl,HM⟩:=hrel;obtain⟨J,hB⟩:=HM.h
  by_cases ay:m<N
  ·obtain⟨b',o',f,eA,a7,c0,c1,c2,c3,c4,c5,hf⟩:=JE (HF.below hB) (m:=m) (HN.h▸ay)
   have i1:(m:Int)<N:=ae;obtain⟨a2,a0,a3⟩:=fY J hB ay;rw[eA];clear J hB HM ay hm k0 k1 k2 k3 eA
   by_cases O:f.inst=x
   ·have i2:((f.inst:Int)==(x:Int))=true:=by rw[O];simp
    have I:jq y.st.U y.st.ag x=f.ag:=by
     unfold jq;rw[L9 hf.h a2.h (by simp[O])]
    have ax:=ao I;clear O I;go_wp2_with fail;go_ret;exact⟨by rw[ax.h];rfl,au a0 _⟩
   ·have i2:((f.inst:Int)==(x:Int))=false:=by simpa using fun h:(f.inst:Int)=x=>O ae
    have a6:=ao O;clear O;go_wp2_with fail;go_roundw
    case rel=>
     refine⟨m+1,cA a3.h,by go_num,ao ⟨fun q' a4=>?_,au a0 _⟩⟩;rw[bC,hf.h] at a4;rcases aJ.1 a4 with h1|h1
     ·exact a2 q' h1
     ·have h2:q'=f:=by simpa using h1
      subst h2;simpa using a6.h
    case measure=>have:=a3.h;simp[intOf];omega
  ·obtain rfl:m=N:=ae
   have i1:¬((m:Int)<m):=ae;have r0:Cz wr g 0 (Iz y.st.ag):=Yb hB a5 k0;have I:jq y.st.U y.st.ag x=y.st.ag:=by
    unfold jq;rw[DZ.2 (fun f hf=>by
     have:=J f (by rw[HN.h,dE];exact hf);simp[this])]
   obtain⟨a0,ax⟩:=dF hB I;clear J hB HM ay hm k0 k1 k2 k3 I;go_wp2_with fail;go_ret;exact⟨by rw[ax.h];rfl,a0⟩
theorem Ma (g:Nat) (P:PD) (ma:Option Addr) (mc:Nat) (sa:Option Addr) (sc:Nat) (s ub:Nat) (x:Nat) (y:zJ) (w:World) (h:JD w g P ma mc sa sc s ub) (hx:x<P.count) (hn:P.n<=x) (hy:y.st.imp=false->P.fy x y.st.ag=0) (hl:y.st.U.length<=500) (hf:Cells w y.A (gW y.st.U)):
  Wz 145 #[Pz g,Iz (x:Int), .agg y.cells.toArray] w fun e w'=>e= .returned (.tuple #[Iz (fg P x y.st).1,Iz (fg P x y.st).2])/\Bz w w':=by
 obtain⟨w0,O⟩:=Zn (w.alloc (.cells y.cells.toArray 186));obtain⟨g5,ax⟩:=Zn w.heap.size;have B0:=Zw O;have S0:sM w0 g5 y:=⟨by rw[O,ax];exact heap_alloc_new _ _,hf.below B0⟩;have h0:=h.below B0;have hP:=h.pd.right;have ba:=BS P.n (by have:=hP.n6;unfold PD.n;omega) x (by have:=hP.cnt;omega) hn hx;have ay:decide (P.n<=x)=true:=by simpa using hn
 obtain⟨ni,nj,a4,a5⟩:∃ni nj,ni=(cy P.n x).1/\nj=(cy P.n x).2:=⟨_,_,rfl,rfl⟩;have bH:P.n<=6:=hP.n6;have bf:ni<100:=by omega
 have bh:nj<100:=by omega
 cases J:y.st.imp with
 |false=>
  have a6:fg P x y.st=lu P x y.st.ag:=by unfold fg;rw[J];rfl
  rw[a6];obtain⟨k0,k1,k2,k3⟩:=S0.four;rw[J] at k2;obtain⟨H0,a0,HW,bb⟩:=mh h0 B0 (hy J) S0;have bp:g5<w0.heap.size:=S0.D.lt;obtain⟨m0,m1,m2,m3,m4,m5,m6,m7,m8,m9,a2,a7,a8⟩:=h0.cells;have I:g<w0.heap.size:=h0.D.lt;have st:∀{u:World} {b i:Nat} {v:Value},b<w0.heap.size->aR w0.drew u->Cz w0 b i v->Cz u b i v:=fun {u b i v} hb hu hv=>Yb hu hb hv;have d0:=fun u (hu:aR w0.drew u)=>st I hu m0;have d1:=fun u (hu:aR w0.drew u)=>st I hu m1;have d2:=fun u (hu:aR w0.drew u)=>st I hu m2;have d3:=fun u (hu:aR w0.drew u)=>st I hu m3;have d4:=fun u (hu:aR w0.drew u)=>st I hu m4;have d5:=fun u (hu:aR w0.drew u)=>st I hu m5;have d6:=fun u (hu:aR w0.drew u)=>st I hu m6;have d7:=fun u (hu:aR w0.drew u)=>st I hu m7;have d8:=fun u (hu:aR w0.drew u)=>st I hu m8;have d9:=fun u (hu:aR w0.drew u)=>st I hu m9;have bt:=fun u (hu:aR w0.drew u)=>st I hu a2;have e0:=fun u (hu:aR w0.drew u)=>st bp hu k0;clear h h0 B0 S0 hP ba J hy hf st m0 m1 m2 m3 m4 m5 m6 m7 m8 m9 a2 a7 a8 ay
  go_enter Tryz.func145,Tryz.ntmps145
  go_upto_region 1 with(fail)
  rw[<-O,<-ax];clear O ax
  go_upto_region 2 with(fail)
  clear k0 k1 k2 k3;refine Zg [7] [0,1,2,3,4,5,6,7,8,9,10,11,12,13,14] ?_;refine Yt ?_;clear d0 d1 d2 d3 d4 d5 d6 d7 d8 d9 bt e0;refine Ym fun K hK=>?_;refine(JC P ma mc sa sc x y.st.ag _ H0.h.drew.pd hx hn HW.h).mono ?_;rintro e w1⟨rfl,b1⟩;refine Yo hK (b1) ?_;have a3:=ao (a0.h.trans (((aS (aa _ _)).trans b1).mono a0.h.size));clear b1;refine Yt ?_;refine aT ?_;go_wp2_with fail
  go_ret2
  exact⟨rfl,a3.h⟩
 |true=>
  have a6:fg P x y.st=(jq y.st.U y.st.ag ni,jq y.st.U y.st.ag nj):=by unfold fg;rw[J,a4,a5];rfl
  rw[a6];obtain⟨k0,k1,k2,k3⟩:=S0.four;rw[J] at k2;obtain⟨H0,a0,bb,HD,HI,HJ⟩:=FW h0 B0 S0 ay a4 a5;obtain⟨m0,m1,m2,m3,m4,m5,m6,m7,m8,m9,a2,a7,a8⟩:=h0.cells;clear h h0 B0 S0 hP ba J hy hf ay a4 a5
  go_enter Tryz.func145,Tryz.ntmps145
  go_upto_region 1 with(fail)
  rw[<-O,<-ax];clear O ax;go_wp2_with fail;refine(rD P ma mc sa sc x w0 H0.h.pd hx).mono ?_;rintro e w1⟨rfl,b1⟩;rw[HD.h,<-HI.h,<-HJ.h];obtain⟨S1,a3⟩:=dF (bb.h.below b1) (a0.h.trans (b1.mono a0.h.size));clear b1 k0 k1 k2 k3 m0 m1 m2 m3 m4 m5 m6 m7 m8 m9 a2 a7 a8;go_wp2_with fail;refine(Fv g5 y ni w1 S1.h bf hl).mono ?_;rintro e w2⟨rfl,b2⟩;obtain⟨S2,bc⟩:=dF (S1.h.below b2) (a3.h.trans (b2.mono a3.h.size));clear b2;go_wp2_with fail;refine(Fv g5 y nj w2 S2.h bh hl).mono ?_;rintro e w3⟨rfl,b3⟩;have bE:=ao (bc.h.trans (b3.mono bc.h.size));clear b3;go_wp2_with fail
  go_ret2
  exact⟨rfl,bE.h⟩
def ji:Array Value:=#[Iz 0,Iz 0,Iz 0,Iz 0,Iz 0,Iz 0,Iz 0,Iz 0]
theorem aE.eight {a b c d e f h i:Value} (H:aE w g T #[a,b,c,d,e,f,h,i]):(w.cell? ⟨g,0,none⟩=some a/\w.cell? ⟨g,1,none⟩=some b/\w.cell? ⟨g,2,none⟩=some c/\w.cell? ⟨g,3,none⟩=some d/\w.cell? ⟨g,4,none⟩=some e/\w.cell? ⟨g,5,none⟩=some f/\w.cell? ⟨g,6,none⟩=some h/\w.cell? ⟨g,7,none⟩=some i):=
 ⟨H.cell 0,H.cell 1,H.cell 2,H.cell 3,H.cell 4,H.cell 5,H.cell 6,H.cell 7⟩
theorem aE.GJ (H:aE w g T cs):(w.frozen? ⟨g,0,none⟩=false/\w.frozen? ⟨g,1,none⟩=false/\w.frozen? ⟨g,2,none⟩=false/\w.frozen? ⟨g,3,none⟩=false/\w.frozen? ⟨g,4,none⟩=false/\w.frozen? ⟨g,5,none⟩=false/\w.frozen? ⟨g,6,none⟩=false/\w.frozen? ⟨g,7,none⟩=false):=
 ⟨H.frozen 0,H.frozen 1,H.frozen 2,H.frozen 3,H.frozen 4,H.frozen 5,H.frozen 6,H.frozen 7⟩
theorem qH {i:Nat} (h:aE w k T cs) (D:k≠g):aE (fW w g i us) k T cs:=
 h.lv (AM (F:=fun j=>j=g) rfl (Lv.refl _ w)) D
theorem Mb (g:Nat) (P:PD) (ma:Option Addr) (mc:Nat) (sa:Option Addr) (sc:Nat) (s ub:Nat) (x:Nat) (r:ir) (O a5:Int) (w:World) (h:JD w g P ma mc sa sc s ub) (hr:r.inst=(x:Int)) (hx:x<P.count) (hn:P.n<=x) (hs:1<=r.side/\r.side<=2):
  Wz 146 #[Pz g,r.val,Iz O,Iz a5] w fun e w'=> ∃A c,e= .returned (.slice A 2 c)/\lD w.heap.size w' A c (nW P r O a5)/\Bz w w':=by
 obtain⟨r0,r1,r2,I,r4,r5,r6,r7⟩:=r;simp only at hr hs;subst hr;obtain⟨s1,s2⟩:=hs;obtain⟨w0,bE⟩:=Zn (w.alloc (.cells #[Iz r0,Iz r1,Iz (x:Int),Iz I,Iz r4,Iz r5,Iz r6,Iz r7] 40));obtain⟨g5,bU⟩:=Zn w.heap.size;have B0:=Zw bE;have D0:=Zq bE bU;have h0:=h.below B0;have bQ:decide (P.n<=x)=true:=by simpa using hn
 obtain⟨ni,nj,bV,b5⟩:∃ni nj,ni=(cy P.n x).1/\nj=(cy P.n x).2:=⟨_,_,rfl,rfl⟩;have bR:nW P ⟨r0,r1,(x:Int),I,r4,r5,r6,r7⟩ O a5=[⟨r0,r1,(ni:Int),I,O,r5,r6,r7⟩,⟨r0,r1,(nj:Int),3 - I,a5,r5,r6,r7⟩]:=by
  rw[bV,b5];unfold nW;simp only[mD]
 obtain⟨c0,c1,c2,c3,c4,c5,c6,c7⟩:=D0.eight;obtain⟨m0,m1,m2,m3,m4,m5,m6,m7,m8,m9,cn,dc,dp⟩:=h0.cells;have dS:g5<w0.heap.size:=D0.lt;have ay:g<w0.heap.size:=h0.D.lt;have st:∀{u:World} {b i:Nat} {v:Value},b<w0.heap.size->aR w0.drew u->Cz w0 b i v->Cz u b i v:=fun {u b i v} hb hu hv=>Yb hu hb hv;have d0:=fun u (hu:aR w0.drew u)=>st ay hu m0;have d1:=fun u (hu:aR w0.drew u)=>st ay hu m1;have d2:=fun u (hu:aR w0.drew u)=>st ay hu m2;have d3:=fun u (hu:aR w0.drew u)=>st ay hu m3;have d4:=fun u (hu:aR w0.drew u)=>st ay hu m4;have d5:=fun u (hu:aR w0.drew u)=>st ay hu m5;have d6:=fun u (hu:aR w0.drew u)=>st ay hu m6;have d7:=fun u (hu:aR w0.drew u)=>st ay hu m7;have d8:=fun u (hu:aR w0.drew u)=>st ay hu m8;have d9:=fun u (hu:aR w0.drew u)=>st ay hu m9;have dT:=fun u (hu:aR w0.drew u)=>st ay hu cn;have e2:=fun u (hu:aR w0.drew u)=>st dS hu c2;obtain⟨H0,ct,ea,cv,HI,HJ,cF⟩:=yY h0 B0 D0 bQ bV b5 bR;rw[show(ir.val ⟨r0,r1,(x:Int),I,r4,r5,r6,r7⟩)= .agg #[Iz r0,Iz r1,Iz (x:Int),Iz I,Iz r4,Iz r5,Iz r6,Iz r7] from rfl];clear h h0 B0 D0 bQ bV b5 bR c0 c1 c2 c3 c4 c5 c6 c7 m0 m1 m2 m3 m4 m5 m6 m7 m8 m9 cn dc dp st hn
 go_enter Tryz.func146,Tryz.ntmps146
 go_upto_region 1 with(fail)
 rw[<-bE,<-bU];clear bE bU;refine Zg [6] [0,1,2,3,4,5,6,7,8,9,10,11,12,13] ?_;refine Yt ?_;clear d0 d1 d2 d3 d4 d5 d6 d7 d8 d9 dT e2;refine Ym fun K hK=>?_;refine(rD P ma mc sa sc x _ H0.drew.pd hx).mono ?_;rintro e w1⟨rfl,b1⟩;rw[cv.h,<-HI.h,<-HJ.h];refine Yo hK (b1) ?_;have b6:Bz w0 w1:=(aS (aa _ _)).trans b1;obtain⟨cH,b7⟩:=dF (ct.trans (b6.mono ct.size)) (ea.below b6);clear b1 b6;refine Yt ?_;refine aT ?_
 go_upto_region 2 with(fail)
 obtain⟨B,eB⟩:=Zn w1.heap.size;have bf:g5<B:=eB▸b7.lt;obtain⟨c0,c1,c2,c3,c4,c5,c6,c7⟩:=b7.h.eight;have st:∀{u:World} {i:Nat} {v:Value},Below B w1.drew u->Cz w1 g5 i v->Cz u g5 i v:=fun {u i v} hu hv=>Yb hu bf hv;have f0:=fun u (hu:Below B w1.drew u)=>st hu c0;have f1:=fun u (hu:Below B w1.drew u)=>st hu c1;have f2:=fun u (hu:Below B w1.drew u)=>st hu c2;have f3:=fun u (hu:Below B w1.drew u)=>st hu c3;have f4:=fun u (hu:Below B w1.drew u)=>st hu c4;have f5:=fun u (hu:Below B w1.drew u)=>st hu c5;have f6:=fun u (hu:Below B w1.drew u)=>st hu c6;have f7:=fun u (hu:Below B w1.drew u)=>st hu c7;clear st c0 c1 c2 c3 c4 c5 c6 c7;have cQ:=ao eB;clear eB
 go_cut [12,13] (fun v v' wx=> ∃ga gb,v= Pz ga/\v'= Pz gb/\Hid (aE wx ga 40 #[Iz r0,Iz r1,Iz (x:Int),Iz I,Iz r4,Iz r5,Iz r6,Iz r7]/\aE wx gb 40 #[Iz r0,Iz r1,Iz (x:Int),Iz I,Iz r4,Iz r5,Iz r6,Iz r7]/\ga≠gb/\B<=ga/\B<=gb/\Below B w1 wx))
 case first=>
  refine Zy B 6 ?_;refine Zr [0,1] 4 ?_;refine Yr ?_;clear f0 f1 f2 f3 f4 f5 f6 f7;obtain⟨u0,bH⟩:=Zn w1.drew;have a2:u0.heap.size=B:=by rw[bH,cQ.h];rfl
  have b0:Below B w1 u0:=bH▸(aa _ _).drew;rw[<-bH];clear bH;refine Zf [2,3] 3 ?_;refine Zo (fun K hK=>?_) ?_
  ·go_simp
   refine Yo hK (iV (aa _ _) (bu a2.symm) _) ?_;refine Zf [3] 2 ?_;refine Zo (fun K hK=>?_) ?_
   ·go_simp
    refine Yo hK (iV (aa _ _) (by rw[cw,a2];omega) _) ?_;obtain⟨u2,a0⟩:=Zn ((u0.alloc (.cells ji 40)).alloc (.cells ji 40));have bh:(u0.alloc (.cells ji 40)).heap.size=B+1:=by rw[cw,a2]
    have ZA:aE u2 B 40 ji:=a0▸a2▸(aE.new u0 _ _:aE (u0.alloc (.cells ji 40)) u0.heap.size 40 ji).below (au (aa _ _) _);have ZB:aE u2 (B+1) 40 ji:=a0▸bh▸aE.new _ _ _;have b2:Below B w1 u2:=a0▸(b0.alloc ae _).alloc ae _;rw[show(u0.alloc (.cells #[Iz 0,Iz 0,Iz 0,Iz 0,Iz 0,Iz 0,Iz 0,Iz 0] 40)).alloc (.cells #[Iz 0,Iz 0,Iz 0,Iz 0,Iz 0,Iz 0,Iz 0,Iz 0] 40)=u2 from a0.symm];obtain⟨a7,a8,b8⟩:=fY ZA ZB b2;have a3:B<=B:=ae;have a6:B<=B+1:=ae;have ax:(B:Nat)≠B+1:=ae;have YA:aE u2 (B) 40 ji:=by first|exact a7|exact a8
    have YB:aE u2 (B+1) 40 ji:=by first|exact a7|exact a8
    clear a0 bh ZA ZB b2 b0 a2 a7 a8;have wa:=bO (us:=[Iz r0,Iz r1,Iz (x:Int),Iz I,Iz r4,Iz r5,Iz r6,Iz r7]) YA rfl;have a4:=qH (us:=[Iz r0,Iz r1,Iz (x:Int),Iz I,Iz r4,Iz r5,Iz r6,Iz r7]) (i:=0) YB (Ne.symm ax);have wb:=bO (us:=[Iz r0,Iz r1,Iz (x:Int),Iz I,Iz r4,Iz r5,Iz r6,Iz r7]) a4 rfl;have ba:=qH (us:=[Iz r0,Iz r1,Iz (x:Int),Iz I,Iz r4,Iz r5,Iz r6,Iz r7]) (i:=0) wa ax;have l1:=bA (us:=[Iz r0,Iz r1,Iz (x:Int),Iz I,Iz r4,Iz r5,Iz r6,Iz r7]) (i:=0) a3 (aa B u2);have l2:=bA (us:=[Iz r0,Iz r1,Iz (x:Int),Iz I,Iz r4,Iz r5,Iz r6,Iz r7]) (i:=0) a6 (aa B (fW u2 (B) 0 [Iz r0,Iz r1,Iz (x:Int),Iz I,Iz r4,Iz r5,Iz r6,Iz r7]));have lt:=b8.h.trans (l1.trans l2);obtain⟨z0,z1,z2,z3,z4,z5,z6,z7⟩:=YA.eight;obtain⟨y0,y1,y2,y3,y4,y5,y6,y7⟩:=YA.GJ;obtain⟨q0,q1,q2,q3,q4,q5,q6,q7⟩:=a4.eight;obtain⟨p0,p1,p2,p3,p4,p5,p6,p7⟩:=a4.GJ;simp only[fW] at wa ba wb l1 l2 lt q0 q1 q2 q3 q4 q5 q6 q7 p0 p1 p2 p3 p4 p5 p6 p7;obtain⟨b9,cd,cf,ck,cl⟩:=rU ba wb l1 l2 lt;clear wa ba wb l1 l2 lt YA YB a4;refine Zf [4] 1 ?_;refine Zo (fun K hK=>?_) ?_
    ·go_simp
     refine Yo hK (cf) ?_;clear z0 z1 z2 z3 z4 z5 z6 z7 y0 y1 y2 y3 y4 y5 y6 y7;refine Zf [5] 0 ?_;refine Zo (fun K hK=>?_) ?_
     ·go_simp
      refine Yo hK (ck) ?_;clear q0 q1 q2 q3 q4 q5 q6 q7 p0 p1 p2 p3 p4 p5 p6 p7;refine Ze ?_;go_wp2_with fail;go_meet;exact⟨B,B+1,rfl,rfl,ao ⟨b9,cd,ax,a3,a6,cl⟩⟩
     exact aQ
    exact aQ
   exact aQ
  refine Zo (fun K hK=>?_) ?_
  ·go_simp
   refine Yo hK (iV (aa _ _) (bu a2.symm) _) ?_;refine Zf [2] 2 ?_;refine Zo (fun K hK=>?_) ?_
   ·go_simp
    refine Yo hK (iV (aa _ _) (by rw[cw,a2];omega) _) ?_;obtain⟨u2,a0⟩:=Zn ((u0.alloc (.cells ji 40)).alloc (.cells ji 40));have bh:(u0.alloc (.cells ji 40)).heap.size=B+1:=by rw[cw,a2]
    have ZA:aE u2 B 40 ji:=a0▸a2▸(aE.new u0 _ _:aE (u0.alloc (.cells ji 40)) u0.heap.size 40 ji).below (au (aa _ _) _);have ZB:aE u2 (B+1) 40 ji:=a0▸bh▸aE.new _ _ _;have b2:Below B w1 u2:=a0▸(b0.alloc ae _).alloc ae _;rw[show(u0.alloc (.cells #[Iz 0,Iz 0,Iz 0,Iz 0,Iz 0,Iz 0,Iz 0,Iz 0] 40)).alloc (.cells #[Iz 0,Iz 0,Iz 0,Iz 0,Iz 0,Iz 0,Iz 0,Iz 0] 40)=u2 from a0.symm];obtain⟨a7,a8,b8⟩:=fY ZA ZB b2;have a3:B<=B+1:=ae;have a6:B<=B:=ae;have ax:(B+1:Nat)≠B:=ae;have YA:aE u2 (B+1) 40 ji:=by first|exact a7|exact a8
    have YB:aE u2 (B) 40 ji:=by first|exact a7|exact a8
    clear a0 bh ZA ZB b2 b0 a2 a7 a8;have wa:=bO (us:=[Iz r0,Iz r1,Iz (x:Int),Iz I,Iz r4,Iz r5,Iz r6,Iz r7]) YA rfl;have a4:=qH (us:=[Iz r0,Iz r1,Iz (x:Int),Iz I,Iz r4,Iz r5,Iz r6,Iz r7]) (i:=0) YB (Ne.symm ax);have wb:=bO (us:=[Iz r0,Iz r1,Iz (x:Int),Iz I,Iz r4,Iz r5,Iz r6,Iz r7]) a4 rfl;have ba:=qH (us:=[Iz r0,Iz r1,Iz (x:Int),Iz I,Iz r4,Iz r5,Iz r6,Iz r7]) (i:=0) wa ax;have l1:=bA (us:=[Iz r0,Iz r1,Iz (x:Int),Iz I,Iz r4,Iz r5,Iz r6,Iz r7]) (i:=0) a3 (aa B u2);have l2:=bA (us:=[Iz r0,Iz r1,Iz (x:Int),Iz I,Iz r4,Iz r5,Iz r6,Iz r7]) (i:=0) a6 (aa B (fW u2 (B+1) 0 [Iz r0,Iz r1,Iz (x:Int),Iz I,Iz r4,Iz r5,Iz r6,Iz r7]));have lt:=b8.h.trans (l1.trans l2);obtain⟨z0,z1,z2,z3,z4,z5,z6,z7⟩:=YA.eight;obtain⟨y0,y1,y2,y3,y4,y5,y6,y7⟩:=YA.GJ;obtain⟨q0,q1,q2,q3,q4,q5,q6,q7⟩:=a4.eight;obtain⟨p0,p1,p2,p3,p4,p5,p6,p7⟩:=a4.GJ;simp only[fW] at wa ba wb l1 l2 lt q0 q1 q2 q3 q4 q5 q6 q7 p0 p1 p2 p3 p4 p5 p6 p7;obtain⟨b9,cd,cf,ck,cl⟩:=rU ba wb l1 l2 lt;clear wa ba wb l1 l2 lt YA YB a4;refine Zf [4] 1 ?_;refine Zo (fun K hK=>?_) ?_
    ·go_simp
     refine Yo hK (cf) ?_;clear z0 z1 z2 z3 z4 z5 z6 z7 y0 y1 y2 y3 y4 y5 y6 y7;refine Zf [5] 0 ?_;refine Zo (fun K hK=>?_) ?_
     ·go_simp
      refine Yo hK (ck) ?_;clear q0 q1 q2 q3 q4 q5 q6 q7 p0 p1 p2 p3 p4 p5 p6 p7;refine Ze ?_;go_wp2_with fail;go_meet;exact⟨B+1,B,rfl,rfl,ao ⟨b9,cd,ax,a3,a6,cl⟩⟩
     exact aQ
    exact aQ
   exact aQ
  exact aQ
 obtain⟨ga,gb,rfl,rfl,HX⟩:=hcut;obtain⟨A1,B1,ax,a3,a6,cS⟩:=HX.h;have x2:=A1.cell;have eb:=A1.frozen;obtain⟨w3,bp⟩:=Zn ((wc.setCell ⟨ga,2,none⟩ (Iz (ni:Int))).setCell ⟨ga,4,none⟩ (Iz O));have A3:aE w3 ga 40 #[Iz r0,Iz r1,Iz (ni:Int),Iz I,Iz O,Iz r5,Iz r6,Iz r7]:=bp▸(A1.set 2 (Iz (ni:Int))).set 4 (Iz O);have B3:aE w3 gb 40 #[Iz r0,Iz r1,Iz (x:Int),Iz I,Iz r4,Iz r5,Iz r6,Iz r7]:=bp▸B1.block (by rw[av _ _ _ _ (Ne.symm ax),av _ _ _ _ (Ne.symm ax)]);have b3:Below B w1 w3:=bp▸(cS.setCell (p:=⟨ga,2,none⟩) a3 _).setCell (p:=⟨ga,4,none⟩) a3 _;obtain⟨ed,bb,cT,cm,bc⟩:=rU A3 B3 b3 ax a6;clear HX A1 B1 ax a3 a6 cS A3 B3 b3;have ek:IntKind.i64.wrap (3 - I)=3 - I:=aN _ ae
 go_upto_region 4 with(fail)
 rw[<-bp];clear bp x2 eb;have st:∀{u:World} {i:Nat} {v:Value},Below B w3.drew u->Cz w3 g5 i v->Cz u g5 i v:=fun {u i v} hu hv=>Yb hu bf hv;have k3:Cz w3 g5 3 (Iz I):=Yb cT bf (b7.cell 3);have f3:=fun u (hu:Below B w3.drew u)=>st hu k3;clear st k3;refine bx (R:=Below B) 99999 [6,8,10] [0,1,2,3,4,5,6,7,8,9,10] (by kernel_rfl) (dH.tr _) (dH.J _) (by kernel_rfl) (fun _ _ _ _ _ h=>h) ?_;refine Yt ?_;clear f3;have y2:Cz w3 gb 2 (Iz (x:Int)):=bb.cell 2;have ef:=bb.h.frozen;have y3:Cz w3 gb 3 (Iz I):=bb.cell 3;have eg:=bb.h.frozen;have y4:Cz w3 gb 4 (Iz r4):=bb.cell 4;have ei:=bb.h.frozen;refine Ym fun K hK=>?_;refine Yo hK (mf (p:=⟨gb,2,none⟩) (aa _ _) bc _) ?_;refine Yt ?_;refine Ym fun K hK=>?_;refine Yo hK (mf (p:=⟨gb,3,none⟩) (aa _ _) bc _) ?_;refine Yt ?_;refine Ym fun K hK=>?_;refine Yo hK (mf (p:=⟨gb,4,none⟩) (aa _ _) bc _) ?_;refine Yt ?_;clear y2 ef y3 eg;refine aT ?_;clear y4 ei;obtain⟨w4,bt⟩:=Zn ((((w3.setCell ⟨gb,2,none⟩ (Iz (nj:Int))).setCell ⟨gb,3,none⟩ (Iz (3 - I))).setCell ⟨gb,4,none⟩ (Iz a5)).drew);have B4:aE w4 gb 40 #[Iz r0,Iz r1,Iz (nj:Int),Iz (3 - I),Iz a5,Iz r5,Iz r6,Iz r7]:=bt▸(((bb.set 2 (Iz (nj:Int))).set 3 (Iz (3 - I))).set 4 (Iz a5)).drew;have A4:aE w4 ga 40 #[Iz r0,Iz r1,Iz (ni:Int),Iz I,Iz O,Iz r5,Iz r6,Iz r7]:=bt▸(ed.block (by rw[av _ _ _ _ cm.h,av _ _ _ _ cm.h,av _ _ _ _ cm.h])).drew;have b4:Below B w1 w4:=bt▸(((cT.setCell (p:=⟨gb,2,none⟩) bc _).setCell (p:=⟨gb,3,none⟩) bc _).setCell (p:=⟨gb,4,none⟩) bc _).drew;rw[<-bt];clear bt;obtain⟨c0,c1,c2,c3,c4,c5,c6,c7⟩:=A4.eight;obtain⟨v0,v1,v2,v3,v4,v5,v6,v7⟩:=B4.eight;have ej:=ao b4;clear A4 B4 b4;go_wp2_with fail;go_ret;have cX:Bz w w4:=cH.trans (ej.mono (cQ.h▸cH.size));refine⟨some ⟨w4.heap.size,0,none⟩,2,rfl,?_,au cX _⟩;rw[cF.h];exact cI (base:=w.heap.size) (size:=8) w4 #[Iz r0,Iz r1,Iz (ni:Int),Iz I,Iz O,Iz r5,Iz r6,Iz r7,Iz r0,Iz r1,Iz (nj:Int),Iz (3 - I),Iz a5,Iz r5,Iz r6,Iz r7] 2 cX.size (by unfold maxLen;omega) rfl
structure oN (B:Nat) (w:World) (go:Nat) (L:List ir) (A:Option Addr) (c:Nat):Prop where
 D:aE w go 32 #[.slice A L.length c]
 row:lD B w A c L
 ge:B≤go
theorem oN.ne {L:List ir} (h:oN B w go L A c):(Value.slice A L.length c).ownBlock≠some go:=fun e=>by
 obtain⟨cur,hc⟩:=bY h.row e;exact jY h.D hc (by decide) rfl
theorem oN.below {L:List ir} (h:oN B w go L A c) (I:Bz w w'):oN B w' go L A c:=⟨h.D.below I,bP h.row I,h.ge⟩
theorem oN.more {L M:List ir} {c':Nat} (h:oN B w go L A c) (hn:n=L.length+M.length) (hr:w'.ownsRow B 40 8 (.slice A' n c') n (fC L++fC M)) (hg:w.grownBy w' (Value.slice A L.length c).ownBlock)
  (hl:(Value.slice A' n c').ownBlock=(Value.slice A L.length c).ownBlock\/∃k,(Value.slice A' n c').ownBlock=some k/\w.heap.size<=k):oN B (w'.setCell ⟨go,0,none⟩ (.slice A' n c')) go (L++M) A' c':=by
 have J:=h.D.lt;have O:n=(L++M).length:=by rw[hn,aC]
 subst O;have hb:=h.D.block (hg.block go J fun e=>h.ne e.symm);refine⟨hb.set 0 _,?_,h.ge⟩;unfold lD;rw[rJ];refine aX hr fun g I=>av _ _ _ _ fun e=>?_;have e':g=go:=e;subst e';rcases hl with h1|⟨k,h1,h2⟩
 ·rw[h1] at I;exact h.ne I
 ·rw[h1] at I;injection I with I;omega
theorem JF (h:r.inst.toNat<P.n):lz P st r=[r]:=by unfold lz;rw[if_pos h]
theorem GK (h:¬r.inst.toNat<P.n):lz P st r=[r]++nW P r (fg P r.inst.toNat st).1 (fg P r.inst.toNat st).2:=by unfold lz;rw[if_neg h];rfl
theorem JG (w0:World) (g:Nat) (P:PD) (ma:Option Addr) (mc:Nat) (sa:Option Addr) (sc:Nat) (s ub:Nat) (x:Nat) (y:zJ) (gm gx go:Nat) (L:List ir) (A:Option Addr) (c:Nat) (r:ir) (w:World)
  (h:JD w0 g P ma mc sa sc s ub) (hy:sM w0 gx y) (hm:w0.cell? ⟨gm,0,none⟩=some (.pointer (some ⟨g,0,none⟩))) (bV:gm<w0.heap.size) (hb:Below w0.heap.size w0 w) (T:oN w0.heap.size w go L A c)
  (hr:r.inst=(x:Int)) (hx:x<P.count) (hs:1<=r.side/\r.side<=2) (hw:y.st.imp=false->P.n<=x->P.fy x y.st.ag=0) (hf:y.st.U.length<=500) (hl:L.length<=100000):
  Calls Tryz.prog 143 #[r.val, .pointer (some ⟨go,0,none⟩), .pointer (some ⟨gm,0,none⟩), .pointer (some ⟨gx,0,none⟩)] w fun e w'=>e= .returned (.tuple #[])/\∃A' c',oN w0.heap.size w' go (L++lz P y.st r) A' c'/\Below w0.heap.size w0 w':=by
 obtain⟨r0,r1,r2,r3,r4,r5,r6,r7⟩:=r;simp only at hr hs;subst hr;obtain⟨B,eB⟩:=Zn w0.heap.size;rw[<-eB] at hb T⊢;obtain⟨w1,bp⟩:=Zn (w.alloc (.cells #[.int .i64 r0, .int .i64 r1, .int .i64 (x:Int), .int .i64 r3, .int .i64 r4, .int .i64 r5, .int .i64 r6, .int .i64 r7] 40));obtain⟨g4,cH⟩:=Zn w.heap.size;have b1:Below w.heap.size w w1:=by rw[bp];exact au (aa _ _) _
 have D1:aE w1 g4 40 #[.int .i64 r0, .int .i64 r1, .int .i64 (x:Int), .int .i64 r3, .int .i64 r4, .int .i64 r5, .int .i64 r6, .int .i64 r7]:=by rw[bp,cH];exact heap_alloc_new _ _
 have d3:B<=w.heap.size:=by rw[eB];exact hb.size
 have T1:=T.below b1;have d4:Below B w0 w1:=hb.trans (b1.mono d3);have b0:∀k,(Value.slice A L.length c).ownBlock=some k->k<w.heap.size:=fun k hk=>(T.row.lt k hk).2;obtain⟨c0,c1,c2,c3,c4,c5,c6,c7⟩:=D1.eight;obtain⟨N,eN⟩:=Zn L.length;have o0:w1.cell? ⟨go,0,none⟩=some (.slice A N c):=by rw[eN];exact T1.D.cell 0
 have d5:w1.ownsRow B 40 8 (.slice A N c) N (fC L):=by rw[eN];exact T1.row
 have d6:go<w1.heap.size:=T1.D.lt;have hN:N<=100000:=by omega
 have b8:(Value.slice A N c).ownBlock≠some go:=by rw[eN];exact T1.ne
 have b9:(Value.slice A N c).ownBlock≠some g4:=by rw[eN];exact fun e=>by have:=b0 _ e;omega
 have d7:=ao (show B<=w1.heap.size from aF d3 b1.size);have H:=ao h;have HY:=ao hy;have HM:=ao hm;have bt:=ao T1;have eC:=ao d4;have a4:=ao D1;have HN:=ao eN;have HR:=ao d5;have HW:=ao hw;have a0:=ao eB;have cd:=ao b8;have a5:=ao b9;have a6:=ao bV;rw[show(ir.val ⟨r0,r1,(x:Int),r3,r4,r5,r6,r7⟩)= .agg #[.int .i64 r0, .int .i64 r1, .int .i64 (x:Int), .int .i64 r3, .int .i64 r4, .int .i64 r5, .int .i64 r6, .int .i64 r7] from rfl];clear h hy hm hb T T1 d4 D1 eN d5 hw eB b1 b0 b8 b9 bV
 go_enter Tryz.func143,Tryz.ntmps143
 go_upto_region 1 with(fail)
 rw[<-bp,<-cH];clear bp cH
 go_upto_region 2 with(
       at_builtin
       refine dO yP HR.h #[.int .i64 r0, .int .i64 r1, .int .i64 (x:Int), .int .i64 r3, .int .i64 r4, .int .i64 r5, .int .i64 r6, .int .i64 r7] rfl _ _ rfl rfl rfl rfl (by intro u hu;simp at hu;rcases hu with rfl|rfl|rfl|rfl|rfl|rfl|rfl|rfl<;>rfl) (by omega) (by have:=d7.h;omega) ?_;intro A2 ax w2 cf g2 b2 l2;have k2:w2.heap[go]?=w1.heap[go]?:=g2.block go d6 fun e=>cd.h e.symm;have o2:w2.cell? ⟨go,0,none⟩=some (.slice A N c):=Yd k2 o0;have z2:w2.frozen? ⟨go,0,none⟩=false:=(aY (a:=⟨go,0,none⟩) k2).trans (bt.h.D.frozen 0);have K2:=ao k2;have ck:=ao cf;have cQ:=ao g2;have d8:=ao b2;have I:=ao l2;clear k2 cf g2 b2 l2)
 have cS:=bt.h.more (M:=[⟨r0,r1,(x:Int),r3,r4,r5,r6,r7⟩]) (n:=N+1) (A':=A2) (c':=ax) (w':=w2) (by rw[HN.h];rfl) (by rw[show fC [⟨r0,r1,(x:Int),r3,r4,r5,r6,r7⟩]=#[.int .i64 r0, .int .i64 r1, .int .i64 (x:Int), .int .i64 r3, .int .i64 r4, .int .i64 r5, .int .i64 r6, .int .i64 r7].toList from rfl];exact ck.h) (by rw[<-HN.h];exact cQ.h) (by
  rcases I.h with h1|h1
  ·exact .inl (by rw[<-HN.h];exact h1)
  ·exact .inr ⟨_,h1,by omega⟩)
 obtain⟨w3,bE⟩:=Zn (w2.setCell ⟨go,0,none⟩ (.slice A2 (N+1) ax));rw[<-bE] at cS⊢;have b3:Below B w0 w3:=by rw[bE];exact(d8.h _ _ (af _) eC.h).setCell (p:=⟨go,0,none⟩) bt.h.ge _
 have cl:g4≠go:=jY bt.h.D a4.h (by decide);have D3:aE w3 g4 40 #[.int .i64 r0, .int .i64 r1, .int .i64 (x:Int), .int .i64 r3, .int .i64 r4, .int .i64 r5, .int .i64 r6, .int .i64 r7]:=by
  rw[bE];exact a4.h.block ((av _ _ _ _ cl).trans (cQ.h.block g4 a4.h.lt fun e=>a5.h e.symm))
 have bH:Below w0.heap.size w0 w3:=by rw[<-a0.h];exact b3
 have eD:=ao (H.h.below bH);have m3:w3.cell? ⟨gm,0,none⟩=some (.pointer (some ⟨g,0,none⟩)):=Yb bH a6.h HM.h;obtain⟨c0,c1,c2,c3,c4,c5,c6,c7⟩:=D3.eight;have d9:=ao cS;have ea:=ao b3;have eE:=ao D3;have cm:=ao bH;have eb:Hid ((Value.slice A2 (N+1) ax).ownBlock≠some g4):=ao fun e=>by
  rcases I.h with h1|h1
  ·rw[h1] at e;exact a5.h e
  ·rw[h1] at e;injection e with e;have:=a4.h.lt;omega
 clear cS b3 D3 bH bE o0 d6 cl K2 ck cQ d8 I a4 HR cd a5 d7;go_wp2_with fail;refine(UD g P ma mc sa sc s ub x w3 eD.h hx).mono ?_;rintro e w4⟨rfl,b4⟩
 by_cases a7:P.n<=x
 ·have hd:decide (P.n<=x)=true:=by simpa using a7
  rw[hd];have B4:Below B w0 w4:=ea.h.trans (b4.mono (by rw[a0.h];exact cm.h.size));have a8:Below w0.heap.size w0 w4:=by rw[<-a0.h];exact B4
  have cT:=ao (d9.h.below b4);have ed:=ao (eE.h.below b4);have eF:=ao (H.h.below a8);have eg:=ao (HY.h.below a8);have m4:w4.cell? ⟨gm,0,none⟩=some (.pointer (some ⟨g,0,none⟩)):=Yb a8 a6.h HM.h;obtain⟨y0,y1,y2,y3⟩:=eg.h.four;have cX:=ao B4;have ei:=ao a8;clear b4 B4 a8 c0 c1 c2 c3 c4 c5 c6 c7 m3 hd;obtain⟨c0,c1,c2,c3,c4,c5,c6,c7⟩:=ed.h.eight;go_wp2_with fail;refine(Ma g P ma mc sa sc s ub x y w4 eF.h hx a7 (fun h=>HW.h h a7) hf eg.h.fl).mono ?_;rintro e w5⟨rfl,b5⟩;obtain⟨a3,bQ,en,ef⟩:∃a3 bQ,a3=(fg P x y.st).1/\bQ=(fg P x y.st).2:=⟨_,_,rfl,rfl⟩;rw[<-en,<-ef];have eG:=ao en;have eI:=ao ef;have B5:Below B w0 w5:=cX.h.trans (b5.mono (by rw[a0.h];exact ei.h.size));have ba:Below w0.heap.size w0 w5:=by rw[<-a0.h];exact B5
  have T5:=cT.h.below b5;have D5:=ed.h.below b5;have eJ:=ao (H.h.below ba);have m5:w5.cell? ⟨gm,0,none⟩=some (.pointer (some ⟨g,0,none⟩)):=Yb ba a6.h HM.h;clear b5 en ef c0 c1 c2 c3 c4 c5 c6 c7 m4 y0 y1 y2 y3;obtain⟨L2,bR⟩:=Zn (L++[(⟨r0,r1,(x:Int),r3,r4,r5,r6,r7⟩:ir)]);obtain⟨S6,dc⟩:=Zn (nW P ⟨r0,r1,(x:Int),r3,r4,r5,r6,r7⟩ a3 bQ);have ej:S6.length=2:=by rw[dc];rfl
  rw[<-bR] at T5;have dp:L2.length=N+1:=by rw[bR,aC,HN.h];rfl
  have ek:∀k,(∃cs T,w5.heap[k]?=some (.cells cs T (0,0))/\T≠40)->(Value.slice A2 L2.length ax).ownBlock≠some k:=fun k ⟨cs,T,h1,h2⟩ e=>by
   obtain⟨cur,hc⟩:=bY T5.row e;exact jY h1 hc h2 rfl
  obtain⟨Fs,bb⟩:=Zn (fun k=>k=go\/k=gm\/k=g4:Nat->Prop);have dS:Fs go:=by rw[bb];exact .inl rfl
  have el:Fs gm:=by rw[bb];exact .inr (.inl rfl)
  have a2:Fs g4:=by rw[bb];exact .inr (.inr rfl)
  have o5:w5.cell? ⟨go,0,none⟩=some (.slice A2 (N+1) ax):=by rw[<-dp];exact T5.D.cell 0
  obtain⟨c0,c1,c2,c3,c4,c5,c6,c7⟩:=D5.eight;have n0:∀u,aI Fs w5.drew u->u.cell? ⟨go,0,none⟩=some (.slice A2 (N+1) ax):=fun u hu=>(hu.cell dS).trans o5;have n1:∀u,aI Fs w5.drew u->u.cell? ⟨gm,0,none⟩=some (.pointer (some ⟨g,0,none⟩)):=fun u hu=>(hu.cell el).trans m5;have q0:∀u,aI Fs w5.drew u->u.cell? ⟨g4,0,none⟩=some (.int .i64 r0):=fun u hu=>(hu.cell a2).trans c0;have q1:∀u,aI Fs w5.drew u->u.cell? ⟨g4,1,none⟩=some (.int .i64 r1):=fun u hu=>(hu.cell a2).trans c1;have q2:∀u,aI Fs w5.drew u->u.cell? ⟨g4,2,none⟩=some (.int .i64 (x:Int)):=fun u hu=>(hu.cell a2).trans c2;have q3:∀u,aI Fs w5.drew u->u.cell? ⟨g4,3,none⟩=some (.int .i64 r3):=fun u hu=>(hu.cell a2).trans c3;have q4:∀u,aI Fs w5.drew u->u.cell? ⟨g4,4,none⟩=some (.int .i64 r4):=fun u hu=>(hu.cell a2).trans c4;have q5:∀u,aI Fs w5.drew u->u.cell? ⟨g4,5,none⟩=some (.int .i64 r5):=fun u hu=>(hu.cell a2).trans c5;have q6:∀u,aI Fs w5.drew u->u.cell? ⟨g4,6,none⟩=some (.int .i64 r6):=fun u hu=>(hu.cell a2).trans c6;have q7:∀u,aI Fs w5.drew u->u.cell? ⟨g4,7,none⟩=some (.int .i64 r7):=fun u hu=>(hu.cell a2).trans c7;have eo:go<w5.heap.size/\gm<w5.heap.size/\g4<w5.heap.size:=⟨T5.D.lt,by have:=ba.size;have:=a6.h;omega,D5.lt⟩;have ep:=ao eo;have dT:=ao T5;have eP:=ao D5;have er:=ao B5;have cn:=ao ba;have I:=ao dp;have et:=ao dc;have bc:=ao ej;have eu:=ao bR;have d2:=ao bb;have ct:=ao dS;have ew:=ao ek;clear eo T5 D5 B5 ba dp dc ej bR bb dS el a2 c0 c1 c2 c3 c4 c5 c6 c7 m5 o5 ek
  go_upto_region 4 with(fail)
  refine bx (R:=aI Fs) 7 [5,6,7] [0,1,2,3,4,5,6,7] (by kernel_rfl) (aI.tr _) (aI.J _) (by kernel_rfl) (fun _ _ _ _ _ h=>h) ?_;refine Yt ?_;clear n0 n1 q0 q1 q2 q3 q4 q5 q6 q7;refine Ym fun K hK=>?_;refine(Mb g P ma mc sa sc s ub x ⟨r0,r1,(x:Int),r3,r4,r5,r6,r7⟩ a3 bQ _ eJ.h.drew rfl hx a7 hs).mono ?_;rintro e w6⟨A6,c6,rfl,bf,b6⟩;rw[<-et.h] at bf;have bh:Below w5.heap.size w5 w6:=(aS (aa _ _)).trans b6;have eK:aI Fs w5.drew w6:=fun k hk=>by
   rw[d2.h] at hk;obtain⟨h1,h2,h3⟩:=ep.h;rcases hk with rfl|rfl|rfl
   ·exact b6.block _ h1
   ·exact b6.block _ h2
   ·exact b6.block _ h3
  have T6:=dT.h.below bh;have B6:Below B w0 w6:=er.h.trans (bh.mono (by rw[a0.h];exact cn.h.size));have C6:Cells w6 A6 (fC S6):=dP.O bf;have ey:∀k,Fs k->(Value.slice A2 L2.length ax).ownBlock≠some k:=fun k hk=>by
   rw[d2.h] at hk;rcases hk with rfl|rfl|rfl
   ·exact ew.h _ ⟨_,_,dT.h.D,by decide⟩
   ·exact fun e=>by have:=(dT.h.row.lt _ e).1;have:=a6.h;have:=a0.h;omega
   ·rw[I.h];exact eb.h
  have eL:=ao eK;refine Yo hK (eL.h) ?_;refine Yt ?_;refine Zm fun K hK=>?_;have ez:w6.ownsRow B 40 8 (.slice A2 (N+1) ax) (N+1) (fC L2):=by rw[<-I.h];exact T6.row
  refine fZ yP ez (A:=A6) (m:=2) (c:=c6) (news:=fC S6) _ _ rfl rfl rfl (by rw[iL,bc.h]) (by intro h0;have h1:=iL S6;rw[h0,bc.h] at h1;simp at h1) C6 (x9 S6) (by omega) (by have:=er.h.size;have:=a0.h;have:=bh.size;have:=cn.h.size;omega) (N+1+2) _ rfl rfl ?_;intro A7 c7 w7 ay;have cv:∀k,Fs k->k<w6.heap.size:=fun k hk=>by
   have hs:=bh.size;rw[d2.h] at hk;obtain⟨h1,h2,h3⟩:=ep.h;rcases hk with rfl|rfl|rfl<;>omega
  have bU:aI Fs w6 w7:=fun k hk=>ay.grown.block k (cv k hk) fun e=>ey k hk (by rw[I.h];exact e.symm);have o7:w7.cell? ⟨go,0,none⟩=some (.slice A2 (N+1) ax):=Yd (bU go ct.h) (by rw[<-I.h];exact T6.D.cell 0);have z7:w7.frozen? ⟨go,0,none⟩=false:=(aY (a:=⟨go,0,none⟩) (bU go ct.h)).trans (T6.D.frozen 0);have fin:=T6.more (M:=S6) (n:=N+1+2) (by rw[I.h,bc.h]) ay.own (by rw[I.h];exact ay.grown) (by
   rcases ay.jV with h1|h1
   ·exact .inl (by rw[I.h];exact h1)
   ·exact .inr ⟨_,h1,af _⟩)
  have b7:=(ay.below B w0 (af _) B6).setCell (p:=⟨go,0,none⟩) T6.ge (.slice A7 (N+1+2) c7);have eM:=ao bU;have eA:=ao fin;have eO:=ao b7;clear bU fin b7 cv ay T6 B6 C6 ey ez bh bf;refine Yo hK (eM.h) ?_;refine Yt ?_;refine Zl fun K hK=>?_;go_simp;refine Yl hK ?_;refine aT ?_;go_wp2_with fail
  go_end0
  refine⟨rfl,A7,c7,?_,eO.h⟩;have cF:=eA.h;rw[eu.h,bD,et.h] at cF;rw[GK (by simp only[mD];omega)];simp only[mD];rw[<-eG.h,<-eI.h];exact cF
 ·have hd:decide (P.n<=x)=false:=by simpa using a7
  rw[hd];have cT:=ao (d9.h.below b4);have cX:=ao (ea.h.trans (b4.mono (by rw[a0.h];exact cm.h.size)));clear b4 c0 c1 c2 c3 c4 c5 c6 c7 m3 hd;go_wp2_with fail
  go_end0
  refine⟨rfl,A2,ax,?_,cX.h⟩;rw[JF (by simp only[mD];omega)];exact cT.h
theorem Fw (P:PD) (st:jz) (r:ir):(lz P st r).length<=3:=by
 unfold lz
 split
 ·simp
 ·simp[nW]
theorem vv (P:PD) (st:jz):∀l:List fG,(l.flatMap fun f=>lz P st (oC f)).length<=3*l.length
 |[]=>bT
 |f::l=>by
  have D:=Fw P st (oC f);have I:=vv P st l;rw[bj,aC,bI];omega
theorem Sw (g:Nat) (P:PD) (ma:Option Addr) (mc:Nat) (sa:Option Addr) (sc:Nat) (s ub:Nat) (x k:Nat) (y:zJ) (c:bN) (left:Int) (w:World)
  (h:JD w g P ma mc sa sc s ub) (hf:Cells w y.A (gW y.st.U)) (ax:c.inst=(x:Int)) (ay:c.side=(k:Int)+1) (hx:x<P.count) (hk:k<2) (ho:GD P x k y.st):
  Wz 108 #[Pz g,c.val, .agg y.cells.toArray,Iz left] w fun e w'=> ∃A cp,e= .returned (.slice A (nH P c.id x k y.st left).length cp)/\lD w.heap.size w' A cp (nH P c.id x k y.st left)/\Bz w w':=by
 obtain⟨w0,O⟩:=Zn (((w.alloc (.cells #[Pz g] 28)).alloc (.cells c.cells 35)).alloc (.cells y.cells.toArray 186))
 go_enter Tryz.func108,Tryz.ntmps108
 rw[show c.val= .agg c.cells from rfl]
 go_upto_region 1 with(fail)
 rw[<-O];obtain⟨gm,a7⟩:=Zn w.heap.size;obtain⟨gc,a2⟩:=Zn (w.heap.size+1);obtain⟨gx,a8⟩:=Zn (w.heap.size+1+1);rw[<-a8,<-a2,<-a7];have q1:(w.alloc (.cells #[Pz g] 28)).heap.size=gc:=by rw[cw,a2]
 have q2:((w.alloc (.cells #[Pz g] 28)).alloc (.cells c.cells 35)).heap.size=gx:=by rw[cw,q1,a8,a2]
 have B0:Bz w w0:=O▸au (au (au (aa _ _) _) _) _;have DM:aE w0 gm 28 #[Pz g]:=O▸a7▸(aE.new w _ 28).below (au (au (aa _ _) _) _);have DC:kM w0 gc c:=O▸q1▸(kM.new _ c).below (au (aa _ _) _);have DX:aE w0 gx 186 y.cells.toArray:=O▸q2▸aE.new _ _ _;have h0:=h.below B0;have ba:sM w0 gx y:=⟨DX,hf.below B0⟩;have bQ:Cz w0 gm 0 (Pz g):=DM.cell 0;have bR:=DM.lt;obtain⟨N,eN⟩:=Zn y.st.U.length;have bU:N<=500:=eN▸ho.len;obtain⟨go,a3⟩:=Zn w0.heap.size;obtain⟨w1,a4⟩:=Zn (w0.alloc (.cells #[.slice none 0 0] 32));have T1:oN w0.heap.size w1 go [] none 0:=⟨a4▸a3▸aE.new _ _ _,aM _ _ _ _,ae⟩;have B1:=Zw a4;have bV:=ba.below B1;obtain⟨y0,y1,y2,y3⟩:=bV.four;rw[<-eN] at y3;obtain⟨H,HY,HM,b0,b9,cd,bc,HC,HO,cf,ck,HN,cn⟩:=QO h0 ba bQ bR T1 B1 B0 DC ho ax ay eN a3;clear h h0 ba bQ bR T1 B1 B0 DC DM DX ho ax ay eN hf bV q1 q2 O a7 a2 a8
 go_upto_region 2 with(fail)
 rw[<-a4,<-a3];clear a4 a3;go_wp2_with fail
 go_loopw [17] (fun v wr=> ∃m:Nat,m<=N/\v= Iz (m:Int)/\Hid (∃A cp,oN w0.heap.size wr go ((y.st.U.take m).flatMap fun f=>lz P y.st (oC f)) A cp/\Bz w0 wr)) (fun v _=>N - (intOf v).toNat)
 case atStart=>exact⟨0,aB _,rfl,ao ⟨none,0,b9,cd⟩⟩
 case round=>
  obtain⟨m,hm,rfl,HR⟩:=hrel;obtain⟨A,cp,T,hB⟩:=HR.h
  by_cases a5:m<N
  ·obtain⟨b',o',f,eA,ct,c0,c1,c2,c3,c4,c5,b2⟩:=JE ((HY.below hB).fl) (m:=m) (HN.h▸a5)
   have i1:(m:Int)<N:=ae;have I:f∈y.st.U:=aH b2.h;obtain⟨cl,cv⟩:=HO.h.inst f I;obtain⟨HT,a6,b3,cm⟩:=mh T hB a5 I;rw[eA];clear T hB HR a5 hm y0 y1 y2 y3 eA I;go_wp2_with fail;have hlen:=vv P y.st (y.st.U.take m);have b4:(y.st.U.take m).length<=N:=by rw[bJ];have:=HN.h;omega
   obtain⟨wb,bf⟩:=Zn (wr.alloc (.cells #[Iz f.id,Iz (f.inst:Int),Iz ((f.k:Int)+1),Iz f.ag,Iz f.aw,Iz f.left] 240));have bb:=Zw bf;rw[<-bf];refine(JG w0 g P ma mc sa sc s ub f.inst y gm gx go _ A cp (oC f) wb H HY HM b0 (a6.trans (bb.mono a6.size)) (HT.below bb) rfl cl ⟨by show(1:Int)<=(f.k:Int)+1;omega,by show(f.k:Int)+1<=2;omega⟩ (fun b5 hn=>by rw[HO.h.real b5 f cm.h];exact HO.fy) (HN.h▸bU) ae).mono ?_;rintro e w'⟨rfl,A',c',J,a0⟩;obtain⟨bh,bp⟩:=dF J a0;clear J a0 bf bb hlen b4 c0 c1 c2 c3 c4 c5;go_wp2_with fail;go_roundw
   case rel=>
    refine⟨m+1,cA b3.h,by go_num,ao ⟨A',c',?_,bp⟩⟩;rw[bC,b2.h,rR];have:=bh.h;simpa using this
   case measure=>have:=b3.h;simp[intOf];omega
  ·obtain rfl:m=N:=ae
   have i1:¬((m:Int)<m):=ae;rw[HN.h,dE] at T;have hC:=HC.h.below hB;have b6:=HY.h.below hB;obtain⟨k1,n1,bt,bE,p1,q1,l1,t1,cF⟩:=c;obtain⟨d0,d1,d2,d3,d4,d5,d6,d7,d8⟩:=hC.reads;have ax:bt=(x:Int):=cf;have ay:bE=(k:Int)+1:=ck;rw[ax] at d2;rw[ay] at d3;obtain⟨z0,z1,z2,z3⟩:=b6.four;obtain⟨HT,a6⟩:=dF T hB;clear T hB HR a5 hm y0 y1 y2 y3 hC b6 d0 d4 d5 d6 d7 d8 z2 z3 ax ay;go_wp2_with fail;have hlen:=vv P y.st y.st.U;refine(JG w0 g P ma mc sa sc s ub x y gm gx go _ A cp ⟨3,n1,(x:Int),(k:Int)+1,y.st.ag,y.st.aw,left,0⟩ wr H HY HM b0 a6 HT rfl hx ⟨by show(1:Int)<=(k:Int)+1;omega,by show(k:Int)+1<=2;omega⟩ (fun b5 hn=>HO.fy) (HN.h▸bU) (cA HN.h)).mono ?_;rintro e w'⟨rfl,A',c',J,a0⟩;have o9:=J.D.cell 0;obtain⟨LL,bH⟩:=Zn (nH P n1 x k y.st left);have b7:(y.st.U.flatMap fun f=>lz P y.st (oC f))++lz P y.st ⟨3,n1,(x:Int),(k:Int)+1,y.st.ag,y.st.aw,left,0⟩=LL:=by rw[bH];rfl
   rw[b7] at J o9;have cH:Cz w' go 0 (.slice A' LL.length c'):=o9;obtain⟨bh,bp,b8⟩:=fY J a0 bH;clear J a0 hlen d1 d2 d3 z0 z1 o9 bH b7;go_wp2_with fail;go_ret;refine⟨A',c',by rw[<-b8.h];rfl,?_,bc.trans (bp.mono bc.size)⟩;rw[<-b8.h];exact ch bh.row bc.size
def sY (u:Int→Bool) (id:Int):Option Value:=if u id=true then some (.bool true) else none
structure zt where
 ma:Option Addr
 mc:Nat
 sa:Option Addr
 sc:Nat
 s:Nat
 ub:Nat
variable {C:zt}
structure jW (w:World) (Gs R:Nat→Prop) (g:Nat) (P:PD) (m:Mk) (C:zt):Prop where
 b:JD w g P C.ma C.mc C.sa C.sc C.s C.ub
 st:dR w Gs R C.s P m.S
 us:fR w C.ub (sY m.used) m.un
 gl:∀k,Gs k→k<w.heap.size
 rl:∀k,R k→k<w.heap.size
 sep:∀k,Gs k→k≠g∧k≠C.ub∧¬R k
 gu:g≠C.ub
 ro:∀k,qP C.ma k∨qP C.sa k→R k
 rg:¬R g∧¬R C.ub
 su:∀id,fI m.S id→m.used id=true
theorem JD.same (h:JD w g P ma mc sa sc s ub) (hg:w'.heap[g]?=w.heap[g]?) (hr:∀k,qP ma k\/qP sa k->k<w.heap.size->w'.heap[k]?=w.heap[k]?) (hs:w.heap.size<=w'.heap.size):JD w' g P ma mc sa sc s ub:=
 ⟨h.D.block hg,h.pd.same hr hs⟩
theorem jW.below (h:jW w Gs R g P m C) (D:Bz w w'):jW w' Gs R g P m C:=
 ⟨h.b.below D,h.st.below D,h.us.below D,fun k I=>aA (h.gl k I) D.size,fun k I=>aA (h.rl k I) D.size,h.sep,h.gu,h.ro,h.rg,h.su⟩
theorem jW.state {Gs':Nat->Prop} (h:jW w Gs R g P m C) {S':Sm} (ax:dR w' Gs' R C.s P S') (hl:Lv Gs w w') (O:∀j,Gs' j->Gs j\/qO w w' j) (ay:∀id,fI S' id->m.used id=true):jW w' Gs' R g P {m with S:=S'} C:=by
 have a0:=h.b.D.lt;have a2:=h.us.lt;have hs:=hl.size;have nG:∀k,k=g\/k=C.ub\/R k->¬Gs k:=fun k J hg=>by
  obtain⟨I,h2,h3⟩:=h.sep k hg;rcases J with e|e|e
  ·exact I e
  ·exact h2 e
  ·exact h3 e
 refine⟨h.b.same (hl.block g a0 (nG g (.inl rfl))) (fun k J a3=>hl.block k a3 (nG k (.inr (.inr (h.ro k J))))) hs,ax,h.us.block (hl.block _ a2 (nG _ (.inr (.inl rfl)))),fun k J=>?_,fun k J=>aA (h.rl k J) hs,fun k J=>?_,h.gu,h.ro,h.rg,ay⟩
 ·rcases O k J with I|I
  ·exact aA (h.gl k I) hs
  ·exact I.2
 ·rcases O k J with I|I
  ·exact h.sep k I
  ·exact⟨fun e=>cA I.1,fun e=>cA I.1,fun e=>jE (h.rl k e) I.1⟩
theorem jW.use (h:jW w Gs R g P m C) (id:Int) (hu:fR w' C.ub (sY fun y=>if y=id then true else m.used y) n) (J:Lv (fun k=>k=C.ub) w w'):jW w' Gs R g P ⟨m.S,fun y=>if y=id then true else m.used y,n⟩ C:=by
 have O:=h.b.D.lt;have hs:=J.size;refine⟨h.b.same (J.block g O h.gu) (fun k I ax=>J.block k ax fun e=>h.rg.2 (e▸h.ro k I)) hs,h.st.same (fun k I ay=>J.block k I fun e=>?_) hs,hu,fun k I=>aA (h.gl k I) hs,fun k I=>aA (h.rl k I) hs,h.sep,h.gu,h.ro,h.rg,fun i hi=>?_⟩
 ·rcases ay with h1|h1
  ·exact(h.sep k h1).2.1 e
  ·exact h.rg.2 (e▸h1)
 ·simp only
  split
  ·rfl
  ·exact h.su i hi
theorem jW.lv {F:Nat->Prop} (h:jW w Gs R g P m C) (J:Lv F w w') (hF:∀k,k=g\/k=C.ub\/Gs k\/R k->¬F k):jW w' Gs R g P m C:=by
 have hs:=J.size;exact⟨h.b.same (J.block g h.b.D.lt (hF g (.inl rfl))) (fun k I O=>J.block k O (hF k (.inr (.inr (.inr (h.ro k I)))))) hs,h.st.lv J fun k I=>hF k (.inr (.inr I)),h.us.lv J (hF _ (.inr (.inl rfl))),fun k I=>aA (h.gl k I) hs,fun k I=>aA (h.rl k I) hs,h.sep,h.gu,h.ro,h.rg,h.su⟩
def ic (w:World) (Gs R:Nat→Prop) (g:Nat) (P:PD) (C:zt) (B:Nat) (res:Mk×List ir) (e:Ending) (w':World):Prop:=
 res.2.length≤B∧∃A cp Gs',e= .returned (.slice A res.2.length cp)∧lD w.heap.size w' A cp res.2∧jW w' Gs' R g P res.1 C∧Lv (fun j=>j=C.ub∨Gs j) w w'∧(∀j,Gs' j→Gs j∨qO w w' j)∧∀b,(Value.slice A res.2.length cp).ownBlock=some b→¬Gs' b
theorem ic.before {J:World} {O:Nat} {e:Ending} (I:Bz w J) (h:ic J Gs R g P C B res e w') (hB:B<=O):ic w Gs R g P C O res e w':=by
 obtain⟨h0,A,cp,Gs',h1,h2,h3,h4,h5,h6⟩:=h;refine⟨aF h0 hB,A,cp,Gs',h1,ch h2 I.size,h3,Lv.iD I h4,fun j hj=>?_,h6⟩;rcases h5 j hj with D|D
 ·exact .inl D
 ·exact .inr ⟨aF I.size D.1,D.2⟩
theorem ic.same (h:jW w Gs R g P m C) {cp:Nat} {l:List ir} (hn:n=l.length) (own:lD w.heap.size w' A cp l) (I:Bz w w'):ic w Gs R g P C n (m,l) (.returned (.slice A n cp)) w':=by
 subst hn;refine⟨af _,A,cp,Gs,rfl,own,h.below I,Lv.bL I,fun j J=> .inl J,fun b D hg=>?_⟩;have O:=(own.lt b D).1;have:=h.gl b hg;omega
def my:List jz→Int
 |[]=>0
 |st::l=>st.aw+my l
theorem zu (P:PD) (id:Int) (x k:Nat) (st:jz):∀(l:List jz) (left:Int),kj P id x k (l++[st]) left=kj P id x k l left++nH P id x k st (left - my l - st.aw)
 |[],left=>by simp[kj,my]
 |a::l,left=>by
  have h:=zu P id x k st l (left - a.aw);rw[fO];unfold kj;rw[h,bD,show left - a.aw - my l - st.aw=left - my (a::l) - st.aw by simp only[my];omega]
theorem Fx (P:PD) (id:Int) (x k:Nat) (st:jz) (left:Int) (h:st.U.length<=500):(nH P id x k st left).length<=1503:=by
 unfold nH;have D:=vv P st st.U;have I:=Fw P st ⟨3,id,x,(k:Int)+1,st.ag,st.aw,left,0⟩;rw[aC];omega
theorem Sx (P:PD) (id:Int) (x k:Nat) (st:jz) (left:Int):nH P id x k st left≠[]:=by
 unfold nH lz
 split<;>simp
theorem Sy (L:List zJ):my (L.map (·.st))=(L.map (·.st.aw)).sum:=by
 induction L with
 |nil=>rfl
 |cons y L D=>simp only[aW,my,cN,D]
theorem Fy (h:∀y∈L,1<=y.st.aw):∀n,0<=my ((L.take n).map (·.st))/\my ((L.take n).map (·.st))<=my (L.map (·.st))/\(L.length:Int)<=my (L.map (·.st)):=by
 induction L with
 |nil=>intro n;simp[my]
 |cons y L O=>
  intro n;have h1:=h y (cg ..);have D:=O (fun z hz=>h z (bB _ hz));have e:my ((y::L).map (·.st))=y.st.aw+my (L.map (·.st)):=rfl;have e2:(((y::L).length:Nat):Int)=(L.length:Int)+1:=bT;rw[e,e2]
  cases n with
  |zero=>
   obtain⟨a1,J,a3⟩:=D 0;have I:my (((y::L).take 0).map (·.st))=0:=rfl;have e4:my ((L.take 0).map (·.st))=0:=rfl;rw[e4] at J;rw[I];exact⟨ae,ae,ae⟩
  |succ n=>
   obtain⟨a1,J,a3⟩:=D n;have I:my (((y::L).take (n+1)).map (·.st))=y.st.aw+my ((L.take n).map (·.st)):=rfl;rw[I];exact⟨ae,ae,ae⟩
theorem FA (l:List jz) (st:jz):my (l++[st])=my l+st.aw:=by
 induction l with
 |nil=>simp[my]
 |cons a l D=>simp only[fO,my,D];omega
theorem Sz {l:List zJ} (h:Cells w A (uI l)) {m:Nat} (hm:m<l.length):
  ∃b o y,A=some ⟨b,o,none⟩/\b<w.heap.size/\w.cell? ⟨b,o+m*4,none⟩=some (Iz y.st.ag)/\w.cell? ⟨b,o+m*4+1,none⟩=some (Iz y.st.aw)/\w.cell? ⟨b,o+m*4+2,none⟩=some (.bool y.st.imp)/\w.cell? ⟨b,o+m*4+3,none⟩=some (.slice y.A y.st.U.length y.c)/\Hid (l[m]?=some y):=by
 have I:(uI l).length=l.length*4:=dX zJ.bG l;have D:uI l≠[]:=by intro e;rw[e] at I;simp at I;omega
 obtain⟨b,o,rfl,J,hc⟩:=h D;have hr:l[m]?=some l[m]:=aj hm;have key:∀(j:Nat) (v:Value),j<4->(l[m]).cells[j]?=some v->Cz w b (o+m*4+j) v:=fun j v O hv=>by
  rw[bg];exact hc _ _ ((ig zJ.bG j O hr).trans hv)
 exact⟨b,o,l[m],rfl,J,key 0 _ ae rfl,key 1 _ ae rfl,key 2 _ ae rfl,key 3 _ ae rfl,hr⟩
theorem PS (u:Int->Bool) (id:Int):(fun y=>if y=id then some (Value.bool true) else sY u y)=sY (fun y=>if y=id then true else u y):=by
 funext y
 unfold sY
 by_cases D:y=id<;>simp[D]
theorem PT (u:Int->Bool) (id:Int) (n:Nat):(if (sY u id).isSome=true then n else n+1)=if u id=true then n else n+1:=by
 unfold sY
 by_cases D:u id=true<;>simp[D]
def qk (P:PD) (id:Int) (x k:Nat) (ag aw:Int) (L:List zJ) (n:Nat):List ir:=⟨1,id,x,(k:Int)+1,ag,aw,aw,0⟩::kj P id x k ((L.take n).map (·.st)) aw
theorem FB {x:Nat} (I:L[n]?=some y):qk P id x k ag aw L (n+1)=qk P id x k ag aw L n++nH P id x k y.st (aw - my ((L.take n).map (·.st)) - y.st.aw):=by
 unfold qk;have D:(L.take (n+1)).map (·.st)=(L.take n).map (·.st)++[y.st]:=by rw[bC,I];simp
 rw[D,zu,fO]
theorem CM {P:PD} {id:Int} {x k:Nat} {ag aw:Int} {L:List zJ} (h:∀y∈L,y.st.U.length<=500):∀n,(qk P id x k ag aw L n).length<=1+1503*n
 |0=>by simp[qk,kj]
 |n+1=>by
  have I:=CM (P:=P) (id:=id) (x:=x) (k:=k) (ag:=ag) (aw:=aw) h n
  cases D:L[n]? with
  |none=>
   have:L.take (n+1)=L.take n:=by rw[bC,D];simp
   unfold qk at I⊢;rw[this];omega
  |some y=>
   rw[FB D,aC];have:=Fx P id x k y.st (aw - my ((L.take n).map (·.st)) - y.st.aw) (h y (aH D));omega
structure Y3 (w w3 wr:World) (b0:Nat) (A:Option Addr) (c:Nat) (O:List ir):Prop where
 row:lD w.heap.size wr A c O
 jV:∀b,(Value.slice A O.length c).ownBlock=some b→b=b0∨w3.heap.size≤b
 lv:Lv (fun k=>k=b0) w3 wr
theorem PU (g:Nat) (P:PD) (m:Mk) (Gs R:Nat->Prop) (C:zt) (c:bN) (x k:Nat) (w:World) (h:jW w Gs R g P m C) (fa:c.inst=(x:Int)) (ff:c.side=(k:Int)+1) (hx:x<P.count) (hk:k<2) (hq:1<=c.aw/\c.aw<=1000000) (cm:dZ c.id) (hp:P.fy x c.ag=0)
  (eE:¬fI m.S c.id) (fi:cK m.S<250) (fk:m.un<1000000) (hl:c.ky.length<=9223372036854775807):
  Wz 70 #[Pz g,c.val] w (ic w Gs R g P C (2+1503*c.aw.toNat) (iE P m c.id x k c.ag c.aw c.time)):=by
 obtain⟨ck,ci,cn,cs,I,cq,cl,ct,cb⟩:=c;simp only at fa ff hq cm hp eE hl⊢;subst fa;subst ff;obtain⟨w0,cv⟩:=Zn (w.alloc (.cells (bN.cells ⟨ck,ci,(x:Int),(k:Int)+1,I,cq,cl,ct,cb⟩) 35));obtain⟨gc,cF⟩:=Zn w.heap.size;have B0:=Zw cv;have C0:kM w0 gc ⟨ck,ci,(x:Int),(k:Int)+1,I,cq,cl,ct,cb⟩:=cv▸cF▸kM.new _ _;have h0:=h.below B0;obtain⟨d0,d1,d2,d3,d4,d5,d6,d7,d8⟩:=C0.reads;obtain⟨m0,m1,m2,m3,m4,m5,m6,m7,m8,m9,bE,a7,bh⟩:=h0.b.cells;have ho:g<w0.heap.size:=h0.b.D.lt;have ht:gc<w0.heap.size:=C0.lt;obtain⟨w1,fq,fx,fz⟩:=(h0.us.below (aS (aa _ _))).put Tryz.underlying88 cm (.bool true) fk;have hB:∀u,aR w0.drew u->Cz u g 12 (.map (some C.ub)):=fun u hu=>Yb hu ho bh;have e1:∀u,aR w0.drew u->Cz u gc 1 (Iz ci):=fun u hu=>Yb hu ht d1;obtain⟨H,H0,cH,eF,hD,hG,hH,hJ,HP,hL,fH⟩:=Hl h h0 B0 C0 fx fz eE fi hp cm cF;clear h h0 B0 C0 fx fz eE fi hp cm fk d0 d1 d2 d3 d4 d5 d6 d7 d8 m0 m1 m2 m3 m4 m5 m6 m7 m8 m9 bE a7 bh;rw[show(bN.val ⟨ck,ci,(x:Int),(k:Int)+1,I,cq,cl,ct,cb⟩)= .agg (bN.cells ⟨ck,ci,(x:Int),(k:Int)+1,I,cq,cl,ct,cb⟩) from rfl]
 go_enter Tryz.func70,Tryz.ntmps70
 go_upto_region 1 with(fail)
 rw[<-cv,<-cF];clear cv cF;refine bx (R:=aR) 6 [6] [0,1,2,3,4,5,6] (by kernel_rfl) aR.tr aR.J (by kernel_rfl) (fun _ _ _ _ _ h=>h) ?_;refine Yt ?_;clear hB e1;refine Zl fun K hK=>?_;go_simp;refine Yl hK ?_;refine aT ?_;have M1:=hD.h;rw[PS,PT] at M1;have L1:Lv (fun k=>k=C.ub) w0 w1:=(Lv.drew (Lv.refl _ w0)).then (Lv.dy hG fun k hk=> .inl (by injection hk with hk;exact hk.symm));have eG:=H0.h.use ci M1 L1;obtain⟨m1,eI⟩:=Zn (⟨m.S,fun y=>if y=ci then true else m.used y,if m.used ci=true then m.un else m.un+1⟩:Mk);rw[<-eI] at eG;have C1:kM w1 gc ⟨ck,ci,(x:Int),(k:Int)+1,I,cq,cl,ct,cb⟩:=(L1.block gc eF.lt fun e=>jE H.h.us.lt fH.h).trans eF;obtain⟨d0,d1,d2,d3,d4,d5,d6,d7,d8⟩:=C1.reads;obtain⟨hN,fT,bH,cQ⟩:=mh C1 eG L1 eI;clear C1 eG L1 eI M1 fq
 go_upto_region 3 with(fail)
 obtain⟨w2,cS⟩:=Zn (w1.alloc (.cells #[Iz 1,Iz ci,Iz (x:Int),Iz ((k:Int)+1),Iz I,Iz cq,Iz cq,Iz 0] 40));obtain⟨b0,cT⟩:=Zn w1.heap.size;rw[<-cS,<-cT];have B2:=Zw cS;have cX:=fT.h.below B2;have C2:=hN.h.below B2;have bQ:w.heap.size<=w1.heap.size:=jE cH.h.size bH.h.size;have R2:lD w.heap.size w2 (some ⟨b0,0,none⟩) 1 [⟨1,ci,(x:Int),(k:Int)+1,I,cq,cq,0⟩]:=cS▸cT▸cI (base:=w.heap.size) (size:=8) w1 #[Iz 1,Iz ci,Iz (x:Int),Iz ((k:Int)+1),Iz I,Iz cq,Iz cq,Iz 0] 1 bQ (by unfold maxLen;omega) rfl;obtain⟨m0,eJ,m2,m3,m4,m5,m6,m7,m8,m9,bE,a7,bh⟩:=cX.b.cells;have f0:g<w2.heap.size:=cX.b.D.lt;have f1:gc<w2.heap.size:=C2.lt;clear d0 d1 d2 d3 d4 d5 d6 d7 d8;obtain⟨d0,d1,d2,d3,d4,d5,d6,d7,d8⟩:=C2.reads;obtain⟨Fs,c0⟩:=Zn (fun j=>j=g\/j=gc:Nat->Prop);have mg:Fs g:=c0▸.inl rfl;have mc:Fs gc:=c0▸.inr rfl;have eK:∀u,aI Fs w2.drew u->Cz u g 11 (Pz C.s):=fun u hu=>(hu.cell mg).trans a7;have e2:∀u,aI Fs w2.drew u->Cz u gc 2 (Iz (x:Int)):=fun u hu=>(hu.cell mc).trans d2;have e3:∀u,aI Fs w2.drew u->Cz u gc 3 (Iz ((k:Int)+1)):=fun u hu=>(hu.cell mc).trans d3;have e4:∀u,aI Fs w2.drew u->Cz u gc 4 (Iz I):=fun u hu=>(hu.cell mc).trans d4;have e5:∀u,aI Fs w2.drew u->Cz u gc 5 (Iz cq):=fun u hu=>(hu.cell mc).trans d5;have eb:w.heap.size<=gc:=bu fH.symm;have ed:∀j,Gs j->j<w.heap.size:=H.gl;obtain⟨eL,bb,hP,dc,ef,f2,hQ,f3,bR,eM,eg⟩:=Hl B2 cX C2 R2 cT bQ c0 eb ed f0 f1;clear B2 cX C2 R2 cT cS bQ m0 eJ m2 m3 m4 m5 m6 m7 m8 m9 bE a7 bh d0 d1 d2 d3 d4 d5 d6 d7 d8 c0 mg mc eb ed f0 f1;refine bx (R:=aI Fs) 99999 [12] [0,1,2,3,4,5,6,7,8,9,10,11,12,13,14,15,16,17] (by kernel_rfl) (aI.tr _) (aI.J _) (by kernel_rfl) (fun _ _ _ _ _ h=>h) ?_;refine Yt ?_;clear eK e2 e3 e4 e5;refine Ym fun K hK=>?_;refine(GF C.s P m1.S Gs R x k ((k:Int)+1) I cq _ bb.st.drew hx hk rfl hq).mono ?_;rintro e w3⟨Al,hU,L,G3,rfl,hT⟩;rw[show m1.S=m.S by rw[cQ.h]] at hT;have hh:aI Fs w2.drew w3:=fun j hj=>by
  rw[hQ.h] at hj;rcases hj with rfl|rfl
  ·exact hT.lv.block _ eM fun e=>(bb.sep _ e).1 rfl
  ·exact hT.lv.block _ eg fun e=>jE (bR.h _ e) f3.h
 refine Yo hK (hh) ?_;have HT:=ao hT;clear hT hh;refine Yt ?_;refine aT ?_;obtain⟨res,a5⟩:=Zn (dV P cq.toNat m.S x k I cq);have bU:m1.S=m.S:=by rw[cQ.h]
 rw[bU,<-a5];have hT:=HT.h;rw[<-a5] at hT;obtain⟨left,el⟩:=Zn res.2.2;rw[<-el];have f4:=hT.l0;have eO:=hT.sm;rw[<-el] at f4 eO;have bV:Lv Gs w2 w3:=(Lv.drew (Lv.refl _ w2)).then hT.lv;have f5:=bb.h.state (S':=res.1) hT.st bV hT.sub (fun id hs=>bb.su id (by rw[bU];rw[a5] at hs;exact(Sub.run P _ _ _ _ _ _).stands hs));have ei:w.heap.size<=b0:=ef.h▸f2;have ej:b0<w2.heap.size:=(dc.lt b0 rfl).2;have ek:∀j,j=g\/j=C.ub\/G3 j\/R j->¬(j=b0):=fun j hj e=>by
  subst e;rcases hj with e|e|e|e
  ·have:=H.h.b.D.lt;omega
  ·have:=H.h.us.lt;omega
  ·rcases hT.sub j e with h1|h1
   ·have:=bR.h j h1;omega
   ·have h2:w2.heap.size<=j:=h1.1;omega
  ·have:=H.h.rl j e;omega
 have eo:gc≠b0:=QF eF.h.lt bH.h.size ef.h;have C3:kM w3 gc ⟨ck,ci,(x:Int),(k:Int)+1,I,cq,cl,ct,cb⟩:=(bV.block gc eg fun e=>jE (bR.h _ e) f3.h).trans hP;have R3:lD w.heap.size w3 (some ⟨b0,0,none⟩) 1 [⟨1,ci,(x:Int),(k:Int)+1,I,cq,cq,0⟩]:=aX dc fun j hj=>bV.block j (dc.lt j hj).2 fun e=>by
  have h1:=(dc.lt j hj).1;have:=bR.h j e;omega
 have E3:Y3 w w3 w3 b0 (some ⟨b0,0,none⟩) 1 (qk P ci x k I cq L 0):=⟨R3,fun b hb=> .inl (by injection hb with hb;exact hb.symm),Lv.refl _ _⟩;obtain⟨N,eN⟩:=Zn L.length;have eP:=Fy hT.qs N;have ep:my (L.map (·.st))+left=cq:=by rw[Sy];exact eO
 have j3:N<=1000000:=ae;have f6:N<=cq.toNat:=ae;have eQ:=ao f6;clear f6;have f7:∀n,0<=my ((L.take n).map (·.st))/\my ((L.take n).map (·.st))<=cq:=fun n=>cA (Fy hT.qs n);have a8:0<=left/\left<=1000000:=ae;obtain⟨d0,d1,d2,d3,d4,d5,d6,d7,d8⟩:=C3.reads;obtain⟨ay,a6,b3,hV,HN,bp,er,f8,b4,f9,et,hW,b6,eR,j0⟩:=V8 hT f5 C3 E3 eN ek eo f7 ej ei a5 el bV a8 ep;rw[<-eN];clear hT f5 C3 E3 eN ek eo f7 ej ei a5 el bV f4 eO eP R3 bU HT a8 ep;go_wp2_with fail
 go_loopw [5,8,51] (fun ov lv v wr=> ∃(n:Nat) (A:Option Addr) (cp:Nat) (O:Nat),n<=N/\v= Iz (n:Int)/\ov= .slice A O cp/\lv= Iz (cq - my ((L.take n).map (·.st)))/\Hid (O=(qk P ci x k I cq L n).length/\Y3 w w3 wr b0 A cp (qk P ci x k I cq L n))) (fun _ _ v _=>N - (intOf v).toNat)
 case atStart=>exact⟨0,_,_,1,aB _,rfl,rfl,by simp[my],ao ⟨rfl,hV⟩⟩
 case round=>
  obtain⟨n,A,cp,O,hn,rfl,rfl,rfl,HI⟩:=hrel;obtain⟨hO,hI⟩:=HI.h;have b7:w3.heap.size<=wr.heap.size:=hI.lv.size
  by_cases dp:n<N
  ·have b8:wr.ownsRow w2.heap.size 186 4 (.slice Al L.length hU) L.length (uI L):=aX ay.steps.row fun j hj=>hI.lv.block j (ay.steps.row.lt j hj).2 fun e=>by
    have h1:w2.heap.size<=j:=(ay.steps.row.lt j hj).1;have:=b4.h;have e':j=b0:=e;omega
   obtain⟨bs,os,y,eA,j4,s0,s1,s2,s3,hy⟩:=Sz (dP.O b8) (m:=n) (HN.h▸dp);have b9:y∈L:=aH hy.h;have dS:=(ay.steps.fl y b9).1;have gb:Cells wr y.A (gW y.st.U):=dP.O (aX dS fun j hj=>hI.lv.block j (dS.lt j hj).2 fun e=>by
    have h1:w2.heap.size<=j:=(dS.lt j hj).1;have:=b4.h;have e':j=b0:=e;omega)
   have eu:=ay.h.ok y b9;have hX:=ay.h.qs y b9;have hC:=b3.h.lt;have Cr:kM wr gc ⟨ck,ci,(x:Int),(k:Int)+1,I,cq,cl,ct,cb⟩:=(hI.lv.block gc b3.lt er).trans b3;have Mr:=a6.h.lv hI.lv bp;clear d0 d1 d2 d3 d4 d5 d6 d7 d8;obtain⟨d0,d1,d2,d3,d4,d5,d6,d7,d8⟩:=Cr.reads;have a2:gc<wr.heap.size:=Cr.lt;have i1:(n:Int)<N:=ae;have eS:(L.take (n+1)).map (·.st)=(L.take n).map (·.st)++[y.st]:=by rw[bC,hy.h];simp
   have gi:=f8.h (n+1);have hY:=f8.h n;rw[eS,FA] at gi;obtain⟨lf,eT⟩:=Zn (cq - my ((L.take n).map (·.st)));rw[<-eT];have h5:0<=lf/\lf<=1000000:=ae;have gj:0<=lf - y.st.aw:=ae;obtain⟨qy,eU⟩:=Zn y.st.aw;rw[<-eU] at s1 gj hX;have hlen:(qk P ci x k I cq L n).length<=1+1503*n:=CM (fun y hy=>(ay.ok y hy).len) n;obtain⟨dT,eV,h6,ew,a0,h7,gp,eW,HO,gq,gv,j5,j6⟩:=QO hI dp gb eu Mr eS eT eU hO b7 hlen Cr b9;rw[eA];clear hI dp gb eu Mr eS eT eU hO b7 hlen HI hY gi dS b8 b9 hC eA hn Cr;obtain⟨j1,j2⟩:=h5;go_wp2_with fail;obtain⟨wa,eY⟩:=Zn (wr.alloc (.cells #[Iz y.st.ag,Iz qy, .bool y.st.imp, .slice y.A y.st.U.length y.c] 186));have Ba:=Zw eY;rw[<-eY];obtain⟨L5,cd⟩:=Zn (nH P ci x k y.st (lf - qy));have gx:Wz 108 #[Pz g, .agg #[Iz ck,Iz ci,Iz (x:Int),Iz ((k:Int)+1),Iz I,Iz cq,Iz cl,Iz ct, .string (str cb)], .agg #[Iz y.st.ag,Iz qy, .bool y.st.imp, .slice y.A y.st.U.length y.c],Iz (lf - qy)] wa fun e w'=> ∃A cp,e= .returned (.slice A L5.length cp)/\lD wa.heap.size w' A cp L5/\Bz wa w':=cd▸eW.h▸Sw g P C.ma C.mc C.sa C.sc C.s C.ub x k y ⟨ck,ci,(x:Int),(k:Int)+1,I,cq,cl,ct,cb⟩ (lf - y.st.aw) wa (a0.b.below Ba) (h6.below Ba) rfl rfl hx hk ew;have h8:L5.length<=1503:=cd▸Fx P ci x k y.st _ ew.len;have gy:L5≠[]:=cd▸Sx P ci x k y.st _;obtain⟨h9,gA,ia⟩:=fY Ba cd gy;clear eY Ba cd s0 s1 s2 s3 d0 d1 d2 d3 d4 d5 d6 d7 d8 a2 gy;refine gx.mono ?_;clear gx;rintro e w5⟨A5,c5,rfl,ey,b5⟩;have B5:Bz wr w5:=dW h9 b5;have r5:w5.ownsRow w.heap.size 40 8 (.slice A O cp) O (fC (qk P ci x k I cq L n)):=HO.h▸bP dT.row B5;have C5:Cells w5 A5 (fC L5):=dP.O ey;obtain⟨M5,eZ⟩:=Zn L5.length;rw[<-eZ] at h8⊢;have hO:O<=1+1503*n:=HO.h▸gv;have j7:n<=1000000:=jE eV.h HN.h;have gG:w.heap.size<=w5.heap.size:=by have:=B5.size;have:=gq.h;have:=b6.h.size;have:=f9.h;have:=b4.h;omega
   obtain⟨gI,ib,ih,gO⟩:=mh B5 r5 C5 eZ;clear B5 r5 C5 eZ ey b5
   go_wp2_with (at_builtin
                refine kS yP ib (A:=A5) (m:=M5) (c:=c5) (news:=fC L5) rfl _ _ rfl rfl rfl (by rw[iL,gO.h]) (by intro h0;have h1:=iL L5;rw[h0] at h1;simp at h1;exact ia (aP ae)) ih (x9 L5) ae gG (O+M5) _ rfl rfl ?_;intro A6 c6 w6 ez;have gP:=ao ez;clear ez)
   go_roundw
   case rel=>
    have e0:=gP.h;have a3:=FB (P:=P) (id:=ci) (x:=x) (k:=k) (ag:=I) (aw:=cq) hy.h;rw[<-gp.h,<-eW.h,<-gA.h] at a3;have ax:O+M5=(qk P ci x k I cq L (n+1)).length:=by rw[a3,aC,HO.h,gO.h]
    refine⟨n+1,A6,c6,O+M5,cA eV.h,by go_num,rfl,?_,ao ⟨ax,?_,fun b hb=>?_,?_⟩⟩
    ·have h1:=gp.h;have h2:=eW.h
     rw[h7.h,FA,<-h2,(ae:cq - (my ((L.take n).map (·.st))+qy)=lf - qy)]
    ·unfold lD
     rw[<-ax,a3,rJ];exact e0.own
    ·rw[<-ax] at hb
     rcases e0.jV with h1|h1
     ·rw[h1,HO.h] at hb;exact dT.jV b hb
     ·rw[h1] at hb;injection hb with hb;exact .inr (jE gq.h gI.h.size)
    ·refine(dT.lv.cV gI).trans (Lv.dy (F:=fun j=>(Value.slice A O cp).ownBlock=some j) e0.grown fun j hj=> .inl hj) fun j hj=>?_
     rw[HO.h] at hj;exact dT.jV j hj
   case measure=>have:=eV.h;simp[intOf];omega
  ·obtain rfl:n=N:=ae
   have gR:=hI;have gT:(L.take n).map (·.st)=res.2.1:=by rw[HN.h,dE];exact ay.map
   have a3:qk P ci x k I cq L n=⟨1,ci,(x:Int),(k:Int)+1,I,cq,cq,0⟩::kj P ci x k res.2.1 cq:=by unfold qk;rw[gT]
   have hE:iE P m ci x k I cq ct=if left=0 then (⟨res.1,m1.used,m1.un⟩,qk P ci x k I cq L n) else if ct=1 then (⟨oW res.1 x k ci I left,m1.used,m1.un⟩,qk P ci x k I cq L n) else (⟨res.1,m1.used,m1.un⟩,qk P ci x k I cq L n++[⟨4,ci,(x:Int),(k:Int)+1,I,left,0,0⟩]):=by
    rw[a3,cQ.h,hW.h,et.h];rfl
   have Mr:=a6.h.lv hI.lv bp;have e6:Lv (fun j=>j=C.ub\/Gs j) w wr:=
    ((((Lv.bL cH:Lv (fun j=>j=C.ub\/Gs j) w w0).trans bH (fun j hj=> .inl (.inl hj))).cV eL).trans b6 (fun j hj=> .inl (.inr hj))).trans hI.lv (fun j hj=> .inr (by have:=f9.h;have e':j=b0:=hj;omega))
   have eB:∀j,G3 j->Gs j\/qO w wr j:=fun j hj=>by
    rcases ay.sub j hj with h2|h2
    ·exact .inl h2
    ·have h3:w2.heap.size<=j:=h2.1
     have h4:j<w3.heap.size:=h2.2;exact .inr ⟨QF bH.h.size cH.h.size eL.h.size,ae⟩
   have g3:∀b,(Value.slice A O cp).ownBlock=some b->¬G3 b/\b<wr.heap.size:=fun b hb=>by
    rw[hO] at hb;have h1:=hI.row.lt b hb;rcases hI.jV b hb with e|e
    ·exact⟨fun hg=>bp b (.inr (.inr (.inl hg))) e,h1.2⟩
    ·refine⟨fun hg=>?_,h1.2⟩
     rcases ay.sub b hg with h2|h2
     ·have:=bR.h b h2;have:=bH.h.size;have:=cH.h.size;have:=eL.h.size;have:=b6.h.size;omega
     ·have h4:b<w3.heap.size:=h2.2
      omega
   have Cr:kM wr gc ⟨ck,ci,(x:Int),(k:Int)+1,I,cq,cl,ct,cb⟩:=(hI.lv.block gc b3.lt er).trans b3;have g4:w.heap.size<=wr.heap.size:=e6.size;have a8:=eR.h;have i1:¬((n:Int)<n):=ae;have eC:wr.ownsRow w.heap.size 40 8 (.slice A O cp) O (fC (qk P ci x k I cq L n)):=hO▸hI.row;obtain⟨bc,HE,a0,e7,bf,a4,j8,HO,g6⟩:=QG eC hE Mr e6 eB g3 Cr hO g4;have cf:O<=1+1503*n:=hO▸CM (fun y hy=>(ay.ok y hy).len) n;have d9:=ao cf;have ba:Hid (∀b,(Value.slice A O cp).ownBlock=some b->b=b0\/w3.heap.size<=b):=ao fun b hb=>gR.jV b (by rw[HO.h] at hb;exact hb);clear gT a3 hE Mr e6 eB g3 hO hI gR HI g4 eC cf dp d0 d1 d2 d3 d4 d5 d6 d7 d8 hn b7
   by_cases hz:left=0
   ·have i2:(left==0)=true:=by simp[hz]
    have HZ:=ao hz;clear hz Cr;go_wp2_with fail;go_ret;rw[HE.h,if_pos HZ.h];refine⟨by show(qk P ci x k I cq L n).length<=_;have:=d9.h;have:=HO.h;have:=eQ.h;omega,A,cp,G3,by rw[<-HO.h];rfl,by rw[lD,<-HO.h];exact bc,a0,e7,bf,fun b hb=>(a4 b (HO.h▸hb)).1⟩
   ·have i2:(left==0)=false:=by simpa using hz
    have HZ:=ao hz;obtain⟨d0,d1,d2,d3,d4,d5,d6,d7,d8⟩:=Cr.reads;have a2:gc<wr.heap.size:=Cr.lt;clear hz Cr
    by_cases bt:ct=1
    ·have i3:(ct==1)=true:=by simp[bt]
     have e9:=ao bt;clear bt;obtain⟨m0,eJ,m2,m3,m4,m5,m6,m7,m8,m9,bE,a7,bh⟩:=a0.h.b.cells;have il:g<wr.heap.size:=a0.b.D.lt;have eK:∀u,aR wr.drew u->Cz u g 11 (Pz C.s):=fun u hu=>Yb hu il a7;have e1:∀u,aR wr.drew u->Cz u gc 1 (Iz ci):=fun u hu=>Yb hu a2 d1;have e2:∀u,aR wr.drew u->Cz u gc 2 (Iz (x:Int)):=fun u hu=>Yb hu a2 d2;have e3:∀u,aR wr.drew u->Cz u gc 3 (Iz ((k:Int)+1)):=fun u hu=>Yb hu a2 d3;have e4:∀u,aR wr.drew u->Cz u gc 4 (Iz I):=fun u hu=>Yb hu a2 d4;clear m0 eJ m2 m3 m4 m5 m6 m7 m8 m9 bE a7 bh d0 d1 d2 d3 d4 d5 d6 d8;go_wp2_with fail;refine bx (R:=aR) 13 [13] [0,1,2,3,4,5,6,7,8,9,10,11,12,13] (by kernel_rfl) aR.tr aR.J (by kernel_rfl) (fun _ _ _ _ _ h=>h) ?_;refine Yt ?_;clear eK e1 e2 e3 e4;refine Zl fun K hK=>?_;go_simp;have g7:Sub res.1 m.S:=et.h▸Sub.run P _ _ _ _ _ _;have iF:x<res.1.length:=by rw[a0.h.st.len];exact hx
     have hM:res.1[x]?=some res.1[x]:=aj iF;refine(Sn C.s P res.1 G3 R x k res.1[x] ((k:Int)+1) ci I left _ a0.st.drew hM hk rfl hL (fun y N' i4 e' i5 g8=>hH (g7.stands ⟨y,N',e',i4,i5,g8⟩)) (jE g7.cnt hJ.h) HP ⟨cA HZ.h,ae⟩).mono ?_;rintro en w4⟨rfl,i6,L4⟩;have ea:Lv G3 wr w4:=(Lv.drew (Lv.refl _ wr)).then L4;refine Yl hK ?_;refine aT ?_;go_wp2_with fail;go_ret;rw[HE.h,if_neg HZ.h,if_pos e9.h];have M4:=a0.h.state (S':=oW res.1 x k ci I left) i6 ea (fun j hj=>hj) (fun id hs=>by
      rcases Md hs with e'|e'
      ·rw[e',cQ.h];simp
      ·exact a0.su id e')
     refine⟨by show(qk P ci x k I cq L n).length<=_;have:=d9.h;have:=HO.h;have:=eQ.h;omega,A,cp,_,by rw[<-HO.h];rfl,?_,M4,e7.trans ea (fun j hj=>?_),fun j hj=>?_,fun b hb hg=>?_⟩
     ·rw[lD,<-HO.h]
      exact aX bc fun b hb=>ea.block b (a4 b hb).2 (a4 b hb).1
     ·rcases bf j hj with h1|h1
      ·exact .inl (.inr h1)
      ·exact .inr h1.1
     ·rcases hj with h1|h1
      ·rcases bf j h1 with h2|h2
       ·exact .inl h2
       ·exact .inr ⟨h2.1,aA h2.2 ea.size⟩
      ·exact .inr ⟨aF g6 h1.1,h1.2⟩
     ·have h2:=a4.h b (HO.h▸hb)
      rcases hg with h1|h1
      ·exact h2.1 h1
      ·have h3:wr.heap.size<=b:=h1.1
       omega
    ·have i3:(ct==1)=false:=by simpa using bt
     have e9:=ao bt;clear bt
     go_wp2_with (at_builtin
                  refine dO yP bc #[Iz 4,Iz ci,Iz (x:Int),Iz ((k:Int)+1),Iz I,Iz left,Iz 0,Iz 0] rfl _ _ rfl rfl rfl rfl (by intro u hu;simp at hu;rcases hu with rfl|rfl|rfl|rfl|rfl|rfl|rfl|rfl<;>rfl) (jE d9.h HN.h) g6 ?_;intro A2 i7 w4 eD g2 b2 l2;obtain⟨g9,eM,i9⟩:=fY eD g2 l2;clear eD g2 b2 l2)
     go_ret;rw[HE.h,if_neg HZ.h,if_neg e9.h];have ax:O+1=(qk P ci x k I cq L n++([⟨4,ci,(x:Int),(k:Int)+1,I,left,0,0⟩]:List ir)).length:=by rw[aC,<-HO.h];rfl
     have L4:Lv (fun j=>(Value.slice A O cp).ownBlock=some j) wr w4:=Lv.dy eM fun j hj=> .inl hj;have M4:=a0.h.lv L4 (fun j hj hb=>by
      have h2:=a4.h j hb;rcases hj with e'|e'|e'|e'
      ·exact bp j (.inl e') (by rcases ba j hb with h3|h3;exact h3;have:=a6.h.b.D.lt;omega)
      ·exact bp j (.inr (.inl e')) (by rcases ba j hb with h3|h3;exact h3;have:=a6.h.us.lt;omega)
      ·exact h2.1 e'
      ·exact bp j (.inr (.inr (.inr e'))) (by rcases ba j hb with h3|h3;exact h3;have:=a6.h.rl j e';omega))
     refine⟨by show(qk P ci x k I cq L n++([⟨4,ci,(x:Int),(k:Int)+1,I,left,0,0⟩]:List ir)).length<=_;rw[<-ax];have:=d9.h;have:=HO.h;have:=eQ.h;omega,A2,i7,G3,by rw[<-ax];rfl,?_,M4,e7.trans L4 (fun j hj=> .inr ?_),fun j hj=>?_,fun b hb hg=>?_⟩
     ·rw[lD,<-ax,rJ]
      exact g9
     ·exact(bc.lt j hj).1
     ·rcases bf j hj with h2|h2
      ·exact .inl h2
      ·exact .inr ⟨h2.1,aA h2.2 L4.size⟩
     ·rw[<-ax] at hb
      rcases i9 with h1|h1
      ·rw[h1] at hb;exact(a4 b hb).1 hg
      ·rw[h1] at hb
       injection hb with hb;have:b<wr.heap.size:=a0.gl b hg;omega
end Go.Proofs.YtbaaheidifacaaaGreat
