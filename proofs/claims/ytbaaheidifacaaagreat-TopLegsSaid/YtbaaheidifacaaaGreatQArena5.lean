import Derived.Test.YtbaaheidifacaaaGreatQArena
import Derived.Laws.MakeOwn
import Derived.Laws.OwnMore
set_option linter.defProp false
set_option linter.unusedVariables false
set_option linter.unusedSimpArgs false
set_option maxRecDepth 100000
set_option maxHeartbeats 12800000
namespace Go.Proofs.YtbaaheidifacaaaGreat
variable {Ls:List (List Nat)} {X:qd} {aK:Nat→dn} {rq:Option Nat}
open Go.RowKit
theorem El:∀(N:Nat) (l:List Nat),(∀i,i<N->i∈l)->N<=l.length
 |0,_,_=>aB _
 |N+1,l,h=>by
  have hm:=h N (cP N);have:=El N (l.erase N) fun i hi=>(List.mem_erase_of_ne ae).2 (h i ae);rw[List.length_erase_of_mem hm] at this;have:0<l.length:=List.length_pos_of_mem hm;omega
theorem fB.Q7 (h:fB X Ls aK) (hf:0<X.free):∃(i:Nat) (s:cU),X.slots[i]?=some s/\s.used=false/\(∀j,j<i->∀t,X.slots[j]?=some t->t.used=true)/\s= .zero/\∀(n:Nat) (L:List Nat),Ls[n]?=some L->i∉L:=by
 have key:∃i,i<X.slots.length/\∀(n:Nat) (L:List Nat),Ls[n]?=some L->i∉L:=by
  refine ny fun a0=>?_;have ax:∀i,i<X.slots.length->i∈Ls.flatten:=by
   intro i hi;refine ny fun J=>a0 ⟨i,hi,fun n L hL hm=>J ?_⟩;exact Kc.2 ⟨L,bF hL,hm⟩
  have:=El _ _ ax;rw[Xh] at this;have a2:=h.fr;unfold oQ at a2;omega
 have first:∀m,m<=X.slots.length->(∀j,j<m->∀t:cU,X.slots[j]?=some t->t.used=true)\/∃(i:Nat) (s:cU),X.slots[i]?=some s/\s.used=false/\(∀j,j<i->∀t:cU,X.slots[j]?=some t->t.used=true):=by
  intro m
  induction m with
  |zero=>exact fun _=> .inl fun j hj=>absurd hj ae
  |succ m ih=>
   intro hm;rcases ih ae with O|O
   ·obtain⟨t,ht⟩:∃t,X.slots[m]?=some t:=⟨X.slots[m]'ae,aj _⟩
    cases hu:t.used with
    |false=>exact .inr ⟨m,t,ht,hu,O⟩
    |true=>
     refine .inl fun j hj t' D=>?_
     by_cases a5:j=m
     ·subst a5;rw[ht] at D;injection D with D;rw[<-D];exact hu
     ·exact O j ae t' D
   ·exact .inr O
 obtain⟨i0,ay,a6⟩:=key;rcases first X.slots.length (af _) with O|⟨i,s,hs,hu,I⟩
 ·have:=O i0 ay _ (h.un i0 ay a6)
  simp[cU.zero] at this
 ·have J:∀(n:Nat) (L:List Nat),Ls[n]?=some L->i∉L:=by
   intro n L hL hm;obtain⟨j,hj⟩:=aG hm;have:=h.sl n L j i hL hj;rw[hs] at this;injection this with this;rw[this] at hu;simp at hu
  have hz:=h.un i (aO hs) J;rw[hs] at hz;injection hz with hz;exact⟨i,s,hs,hu,I,hz,J⟩
def cU.val (s:cU):Value:= .agg #[.bool s.used,Iz s.slot,Iz s.id,Iz s.aw, .bool s.top,Iz s.queue,Iz s.ahead,Iz s.back]
theorem Ox (s:cU) (w:World):Wz 186 #[s.val] w fun e w'=>e= .returned (.bool (!s.used))/\Bz w w':=by
 obtain⟨su,J,D,sq,st,I,sa,sb⟩:=s;show Wz 186 #[.agg #[.bool su,Iz J,Iz D,Iz sq, .bool st,Iz I,Iz sa,Iz sb]] w _
 cases su<;>
 ·go_enter Tryz.func186,Tryz.ntmps186
  go_wp2_with fail;go_ret;exact⟨rfl,(aa _ _).alloc (af _) _⟩
theorem Oy (gs cs N:Nat) (S:List cU) (i:Nat) (s:cU) (w:World) (h:w.ownsRow 0 253 8 (.slice (some ⟨gs,0,none⟩) N cs) N (nL S)) (O:S.length=N) (ay:N<=4096) (hs:S[i]?=some s) (hu:s.used=false) (hb:∀j,j<i->∀t,S[j]?=some t->t.used=true):
  Wz 185 #[.slice (some ⟨gs,0,none⟩) N cs, .func (.func 186) #[] #[]] w fun e w'=>e= .returned (Iz (i:Int))/\Bz w w':=by
 obtain⟨HS,HU,HB,HN,H⟩:=rU hs hu hb O h;have a0:i<N:=O▸aO hs;clear hs hu hb O h
 go_enter Tryz.func185,Tryz.ntmps185
 go_wp2_with fail
 go_loopw [8] (fun v wr=> ∃k:Nat,k<=i/\v= Iz (k:Int)/\Bz w wr) (fun v _=>N - (intOf v).toNat)
 case atStart=>exact⟨0,aB _,rfl,aa _ _⟩
 case round=>
  obtain⟨k,hk,rfl,B⟩:=hrel;have ax:k<N:=ae;obtain⟨t,ht⟩:∃t,S[k]?=some t:=⟨S[k]'(HN.h▸ax),aj _⟩;have own:=bP H B;have key:∀(j:Nat) (v:Value),j<8->t.cells[j]?=some v->Cz wr gs (k*8+j) v:=fun j v hj hv=>dI own ((ig cU.bG j hj ht).trans hv);have s0:=key 0 _ ae rfl;have s1:=key 1 _ ae rfl;have s2:=key 2 _ ae rfl;have s3:=key 3 _ ae rfl;have s4:=key 4 _ ae rfl;have s5:=key 5 _ ae rfl;have s6:=key 6 _ ae rfl;have s7:=key 7 _ ae rfl;rw[lO] at s0;have i1:(k:Int)<N:=ae;have HT:=ao ht;clear key own ht;go_wp2_with fail;refine(Ox t wr).mono ?_;rintro e w1⟨rfl,D⟩;have B1:=dW B D;obtain⟨u,eu⟩:=Zn t.used;rw[<-eu];have EU:=ao eu;clear eu D s0 s1 s2 s3 s4 s5 s6 s7 B
  cases u with
  |true=>
   have I:k≠i:=by
    rintro rfl;have J:=HS.h;rw[HT.h] at J;injection J with J;have h2:=EU.h;rw[J,HU.h] at h2
    cases h2
   go_wp2_with fail;go_roundw
   case rel=>exact⟨k+1,ae,by go_num,B1⟩
   case measure=>simp[intOf];omega
  |false=>
   have I:k=i:=by
    refine ny fun a2=>?_;have:=HB.h k ae t HT;rw[<-EU.h] at this
    cases this
   subst I;go_wp2_with fail;go_ret;exact⟨rfl,B1⟩
theorem cY.F8 {w:World} {a gs:Nat} (h:cY w a gs rq X):∃Aq cq cs,w.cell? ⟨a,0,none⟩=some (.slice (some ⟨gs,0,none⟩) X.slots.length cs)/\w.cell? ⟨a,1,none⟩=some (.slice Aq X.H.length cq)/\w.cell? ⟨a,2,none⟩=some (Iz X.free)/\
  w.ownsRow 0 253 8 (.slice (some ⟨gs,0,none⟩) X.slots.length cs) X.slots.length (nL X.slots)/\w.ownsRow 0 273 4 (.slice Aq X.H.length cq) X.H.length (vP X.H)/\rq=(Value.slice Aq X.H.length cq).ownBlock:=by
 obtain⟨⟨Aq,cq,cs,D,I,J,O⟩,h5⟩:=h;exact⟨Aq,cq,cs,by simp[World.cell?,D],by simp[World.cell?,D],by simp[World.cell?,D],O,I,J⟩
structure T3 (w w':World) (a gs:Nat) (rq:Option Nat) (Ls:List (List Nat)) (aK:Nat→dn) (n:Nat) (L:List Nat) (e:dn) (i:Nat):Prop where
 at_:∃X',cY w' a gs rq X'∧fB X' (Ls.set n (L++[i])) (fun x=>if x=i then e else aK x)
 new:∀(m:Nat) (M:List Nat),Ls[m]?=some M→i∉M
 lv:Lv (qA a gs rq) w w'
theorem Oz (a gs:Nat) (rq:Option Nat) (X:qd) (Ls:List (List Nat)) (aK:Nat->dn) (n:Nat) (L:List Nat) (id aw:Int) (top:Bool) (w:World) (h:cY w a gs rq X) (R:fB X Ls aK) (hL:Ls[n]?=some L) (hf:0<X.free) (hq:1<=aw/\aw<=1000000):
  Wz 174 #[Pz a,Iz (n:Int),Iz id,Iz aw, .bool top] w fun e w'=> ∃i:Nat,e= .returned (.tuple #[Iz (i:Int),Iz 0])/\T3 w w' a gs rq Ls aK n L ⟨id,aw,top⟩ i:=by
 obtain⟨i,s,hs,bU,bE,hz,bb⟩:=R.Q7 hf;have a6:=R.qs n L hL;have a7:=zS fun x hx=>R.qb n L x hL hx;have hlen:=R.len hL;have bV:=h.Vr.1;have b0:=R.fr;have bH:=QZ R hL (aO hs) bb ⟨id,aw,top⟩ _ a6 hf hq;have b2:i<X.slots.length:=aO hs;have hn:n<X.H.length:=aO a6;have a8:fV L L.length= -1\/∃(il:Nat) (sl:cU),fV L L.length=il/\X.slots[il]?=some sl/\il≠i/\il<X.slots.length:=by
  by_cases h0:L=[]
  ·subst h0;exact .inl rfl
  ·obtain⟨y,hy,hp⟩:=pI h0
   refine .inr ⟨y,_,hp,R.sl n L _ y hL hy,?_,R.lt hL hy⟩;rintro rfl;exact bb n L hL (bF hy)
 obtain⟨qf,b7⟩:=Zn (qe L 0);obtain⟨ql,eql⟩:=Zn (fV L L.length);obtain⟨qt,bQ⟩:=Zn (kO aK L);obtain⟨J,bR⟩:=Zn (L.length:Int);rw[<-b7,<-eql,<-bQ,<-bR] at a6 bH;rw[<-eql] at a8;rw[<-bQ,<-bR] at a7;have cl:J<=4096:=ae;have dc:IntKind.i64.wrap (qt+aw)=qt+aw:=aN _ ae;have dp:IntKind.i64.wrap (J+1)=J+1:=aN _ ae;have cm:IntKind.i64.wrap (X.free - 1)=X.free - 1:=aN _ ae;obtain⟨F,eF⟩:=Zn X.free;obtain⟨Aq,cq,cs,c0,c1,c2,bc, -, -⟩:=h.F8;obtain⟨bf,bh,bp, -,bt, -,O⟩:=h.iK;obtain⟨I,b8,hA, -, -, -, -⟩:=O n _ a6;have cS:=b8;subst b8;subst hA;rw[c1] at bt;injection bt with bt;injection bt with ax _ cn;subst ax;subst cn;clear O;rw[<-eF] at c2 cm;have dS:(F==0)=false:=by rw[eF];simp;omega
 have dT:¬aw<1:=ae;have d2:¬1000000<aw:=ae;have d3:(n:Int)<X.H.length:=ae;have d4:(i:Int)<X.slots.length:=ae;have Fq:qA a gs (some I) I:= .inr (.inr rfl);have Fs:qA a gs (some I) gs:= .inr (.inl rfl);have Fa:qA a gs (some I) a:= .inl rfl;obtain⟨s',ct⟩:=Zn (⟨true,i,id,aw,top,n,ql, -1⟩:cU);obtain⟨H,HR,HL,HS,cv,b9,HZ,cd,HQ,cf,d5,cF,EF,ES,cT⟩:=V8 h R hL hs bU bE hz bb a6 bH b2 bV eF ct (And.intro a7 (And.intro hlen b0));clear h R hL hs bU bE hz bb a6 bH b2 bV a7 hlen b0 b7 eql bQ bR cl eF hf
 go_enter Tryz.func174,Tryz.ntmps174
 go_wp2_with fail;refine(zT a gs (some I) X n _ H true (by symm;apply decide_eq_true;omega)).mono ?_;rintro e w'⟨rfl,rfl⟩;go_wp2_with fail;refine(Oy gs cs X.slots.length X.slots i s _ bc rfl cF HS cv b9).mono ?_;rintro e w1⟨rfl,b1⟩;have H1:=H.h.below b1;have L1:Lv (qA a gs (some I)) w w1:=Lv.bL b1;clear c0 c1 c2 bc b1;obtain⟨bf,bh,bp,c0,c1,c2,O⟩:=H1.iK;obtain⟨a2,D,ax,q0,q1,q2,q3⟩:=O n _ HQ;obtain rfl:I=a2:=by injection D
 subst ax;clear O D;simp only at q0 q1 q2 q3;obtain⟨s0,s1,s2,s3,s4,s5,s6,s7⟩:=H1.slot HS;have fz:=fun j=>H1.gH j;obtain⟨w2,a5⟩:=Zn ((vQ w1 gs i s').drew);have H2:cY w2 a gs (some I) ⟨X.slots.set i s',X.H,X.free⟩:=a5▸(H1.fill HS s').drew;have L2:Lv (qA a gs (some I)) w w2:=a5▸(tL L1 Fs i s').drew;unfold vQ at a5;rw[ES.h] at a5;simp only at a5;rw[ES.h] at H2;go_wp2_with fail
 go_still_tail 17,(by kernel_rfl)
 go_upto_region 10 with(fail)
 rw[<-a5];clear a5 c0 c1 c2 q0 q1 q2 q3 s0 s1 s2 s3 s4 s5 s6 s7 fz H1 L1;obtain⟨bf,bh,bp,c0,c1,c2,O⟩:=H2.iK;obtain⟨a2,D,ax,q0,q1,q2,q3⟩:=O n _ HQ;obtain rfl:I=a2:=by injection D
 subst ax;clear O D;simp only at q0 q1 q2 q3 c0 c1 c2;rcases a8 with hl|⟨il,sl,hl,bc,cH,d6⟩
 ·subst hl
  have fz:=H2.fK rfl (n*4);obtain⟨w3,ay⟩:=Zn (w2.setCell ⟨I,n*4,none⟩ (Iz (i:Int)));have H3:cY w3 a gs (some I) ⟨(X.slots.set i ⟨true,i,id,aw,top,n,(-1), -1⟩),(X.H.set n ⟨(i:Int), -1,qt,J⟩),X.free⟩:=ay▸H2.iP (q':=⟨(i:Int), -1,qt,J⟩) rfl HQ (j:=0) ae _ rfl;have L3:Lv (qA a gs (some I)) w w3:=ay▸L2.setCell (p:=⟨I,_,none⟩) Fq _;have a0:(X.H.set n ⟨(i:Int), -1,qt,J⟩)[n]?=some ⟨(i:Int), -1,qt,J⟩:=aD (aO HQ)
  go_upto_region 13 with(fail)
  rw[<-ay];clear ay fz c0 c1 c2 q0 q1 q2 q3 H2 L2;obtain⟨bf,bh,bp,c0,c1,c2,O⟩:=H3.iK;obtain⟨a2,D,ax,q0,q1,q2,q3⟩:=O n _ a0;obtain rfl:I=a2:=by injection D
  subst ax;clear O D;simp only at q0 q1 q2 q3 c0 c1 c2;have fq:=fun j=>H3.fK rfl j;have fa:=H3.frozen 2;have Ol:=(H3.ne.2 I rfl).1;have ba:n<(X.H.set n ⟨(i:Int), -1,qt,J⟩).length:=aO a0;have k1:=H3.iP (q':=⟨(i:Int),(i:Int),qt,J⟩) rfl a0 (j:=1) ae (Iz (i:Int)) rfl;have k2:=k1.iP (n:=n) (q:=⟨(i:Int),(i:Int),qt,J⟩) (q':=⟨(i:Int),(i:Int),qt+aw,J⟩) rfl (aD ba) (j:=2) ae (Iz (qt+aw)) rfl;have k3:=k2.iP (n:=n) (q:=⟨(i:Int),(i:Int),qt+aw,J⟩) (q':=⟨(i:Int),(i:Int),qt+aw,J+1⟩) rfl (aD (by simpa using ba)) (j:=3) ae (Iz (J+1)) rfl;have k4:=k3.AN (F - 1);have LF:=((((L3.setCell (p:=⟨I,n*4+1,none⟩) Fq (Iz (i:Int))).setCell (p:=⟨I,n*4+2,none⟩) Fq (Iz (qt+aw))).setCell (p:=⟨I,n*4+3,none⟩) Fq (Iz (J+1))).setCell (p:=⟨a,2,none⟩) Fa (Iz (F - 1)));have hX:(⟨(X.slots.set i ⟨true,i,id,aw,top,n,(-1), -1⟩),X.H.set n ⟨(i:Int),(i:Int),qt+aw,J+1⟩,F - 1⟩:qd)=oR X n i ⟨id,aw,top⟩ ⟨qf,(-1),qt,J⟩:=by
   unfold oR;rw[EF.h];simp
  have k5:cY ((((w3.setCell ⟨I,n*4+1,none⟩ (Iz (i:Int))).setCell ⟨I,n*4+2,none⟩ (Iz (qt+aw))).setCell ⟨I,n*4+3,none⟩ (Iz (J+1))).setCell ⟨a,2,none⟩ (Iz (F - 1))) a gs (some I) (oR X n i ⟨id,aw,top⟩ ⟨qf,(-1),qt,J⟩):=by
   rw[<-hX];simpa using k4
  have K5:=ao k5;have cQ:Cz w3 a 2 (Iz F):=EF.h▸c2;clear k1 k2 k3 k4 k5 hX H3 L3 a0 c2;go_wp2_with fail
  go_ret2
  exact⟨i,rfl,⟨_,K5,cf⟩,cd,LF⟩
 ·subst hl
  have i0:((il:Int)== -1)=false:=bT;have cX:(il:Int)<X.slots.length:=ae;have ck:(X.slots.set i ⟨true,i,id,aw,top,n,(il:Int), -1⟩)[il]?=some sl:=by rw[aZ (fun e=>cH e.symm)];exact bc
  have fz:=H2.gH (il*8+7);obtain⟨_,_,_,_,_,_,_,t7⟩:=H2.slot ck;obtain⟨w3,ay⟩:=Zn ((w2.setCell ⟨gs,il*8+7,none⟩ (Iz (i:Int))).drew);have H3:cY w3 a gs (some I) ⟨((X.slots.set i ⟨true,i,id,aw,top,n,(il:Int), -1⟩).modify il fun x=>{x with back:=(i:Int)}),X.H,X.free⟩:=ay▸(H2.tK ck (j:=7) ae _ (fun x=>{x with back:=(i:Int)}) rfl).drew;have L3:Lv (qA a gs (some I)) w w3:=ay▸(L2.setCell (p:=⟨gs,_,none⟩) Fs _).drew;have a0:X.H[n]?=some ⟨qf,(il:Int),qt,J⟩:=HQ;have ln:(X.slots.set i ⟨true,i,id,aw,top,n,(il:Int), -1⟩).length=X.slots.length:=bT;rw[ln] at c0;go_wp2_with fail
  go_still_tail 11,(by kernel_rfl)
  go_upto_region 13 with(fail)
  rw[<-ay];clear ay fz c0 c1 c2 q0 q1 q2 q3 H2 L2;obtain⟨bf,bh,bp,c0,c1,c2,O⟩:=H3.iK;obtain⟨a2,D,ax,q0,q1,q2,q3⟩:=O n _ a0;obtain rfl:I=a2:=by injection D
  subst ax;clear O D;simp only at q0 q1 q2 q3 c0 c1 c2;have fq:=fun j=>H3.fK rfl j;have fa:=H3.frozen 2;have Ol:=(H3.ne.2 I rfl).1;have ba:n<X.H.length:=aO a0;have k1:=H3.iP (q':=⟨qf,(i:Int),qt,J⟩) rfl a0 (j:=1) ae (Iz (i:Int)) rfl;have k2:=k1.iP (n:=n) (q:=⟨qf,(i:Int),qt,J⟩) (q':=⟨qf,(i:Int),qt+aw,J⟩) rfl (aD ba) (j:=2) ae (Iz (qt+aw)) rfl;have k3:=k2.iP (n:=n) (q:=⟨qf,(i:Int),qt+aw,J⟩) (q':=⟨qf,(i:Int),qt+aw,J+1⟩) rfl (aD (by simpa using ba)) (j:=3) ae (Iz (J+1)) rfl;have k4:=k3.AN (F - 1);have LF:=((((L3.setCell (p:=⟨I,n*4+1,none⟩) Fq (Iz (i:Int))).setCell (p:=⟨I,n*4+2,none⟩) Fq (Iz (qt+aw))).setCell (p:=⟨I,n*4+3,none⟩) Fq (Iz (J+1))).setCell (p:=⟨a,2,none⟩) Fa (Iz (F - 1)));have hX:(⟨((X.slots.set i ⟨true,i,id,aw,top,n,(il:Int), -1⟩).modify il fun x=>{x with back:=(i:Int)}),X.H.set n ⟨qf,(i:Int),qt+aw,J+1⟩,F - 1⟩:qd)=oR X n i ⟨id,aw,top⟩ ⟨qf,(il:Int),qt,J⟩:=by
   unfold oR;rw[EF.h];simp[(ae:¬((il:Int)= -1))]
  have k5:cY ((((w3.setCell ⟨I,n*4+1,none⟩ (Iz (i:Int))).setCell ⟨I,n*4+2,none⟩ (Iz (qt+aw))).setCell ⟨I,n*4+3,none⟩ (Iz (J+1))).setCell ⟨a,2,none⟩ (Iz (F - 1))) a gs (some I) (oR X n i ⟨id,aw,top⟩ ⟨qf,(il:Int),qt,J⟩):=by
   rw[<-hX];simpa using k4
  have K5:=ao k5;have cQ:Cz w3 a 2 (Iz F):=EF.h▸c2;clear k1 k2 k3 k4 k5 hX H3 L3 a0 c2;go_wp2_with fail
  go_ret2
  exact⟨i,rfl,⟨_,K5,cf⟩,cd,LF⟩
end Go.Proofs.YtbaaheidifacaaaGreat
