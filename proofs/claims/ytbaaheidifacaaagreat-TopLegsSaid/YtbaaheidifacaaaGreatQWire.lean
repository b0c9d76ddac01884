import Derived.Test.YtbaaheidifacaaaGreatQLeaves
import Derived.Test.YtbaaheidifacaaaGreatQCrc
import Derived.Lib.AppendStr
set_option linter.defProp false
set_option linter.unusedVariables false
set_option linter.unusedSimpArgs false
set_option maxRecDepth 100000
set_option maxHeartbeats 12800000
namespace Go.Proofs.YtbaaheidifacaaaGreat
variable {P:Program} {Q:Exit→Act→World→Prop} {a:Act} {base d n:Nat} {l l2:List UInt8} {o:Oper} {ops:Array Oper} {r:Option Nat} {rest:List Oper} {v:Value} {w:World} {xs:List Value}
open Go.RowKit
section
variable {P:Program} {t e:TypeId} {z:Value} {bytes:Nat}
theorem Gj (H:xf P t e z bytes) 
  (D:w.ownsRow base e 1 v n xs) (u:Value)
  (I:o.guard=none) (s x:Operand) (ho:o.op= .call {callee:= .builtin .append,args:=#[s,x],argTypes:=#[t,t]})
  (hs:a.eval s=v) (hx:a.eval x= .slice (some ⟨w.heap.size,0,none⟩) 1 1) (hu:u.oneCell'=true) (hn:n<=1000000000000) (hb:base<=w.heap.size)
  (h:∀A' c' w',og (w.alloc (.cells #[u] e)) base e v (n+1) (xs++[u]) A' c' w'->w.grownBy w' v.ownBlock->wpList P ops Q rest (a.put o.dst (.slice A' (n+1) c')) w'):
  wpList P ops Q (o::rest) a (w.alloc (.cells #[u] e)):=by
 refine nJ H (D.alloc _) I s x ho hs hx rfl (Cells.lit w #[u] e) (by intro y J;simp at J;subst J;exact hu) ae iW _ _ rfl rfl ?_;intro A' c' w' O;exact h A' c' w' O (tD O.grown fun g hg=>(D.lt g hg).2)
end
theorem RK {t u ty e:TypeId} {i:TypeInfo} (ht:P.underlying t=some (.slice e)) (hu:P.underlying u=some .string) (hi:P.info? e=some i) (hz:i.zero=some (.int .u8 0))
  (D:i.size=1) (O:i.bytes=1) (I:w.ownsRow base e 1 v n xs) (s:ByteArray) (hn:n+s.size<=1099511627776) {v':Value} {w':World}
  (h:(Builtin.append_ #[t,u] ty #[v, .string s]).run P w= .ok v' w'):v'.ownBlock=v.ownBlock\/v'.ownBlock=some w.heap.size:=by
 have ax:xs.length=n:=by simpa using I.1
 rcases I.2 with⟨rfl,rfl⟩|⟨g,cap,cur,rfl,a5,hg,a6,a7,ay,a0⟩
 ·by_cases hm:s.size=0
  ·have hf:=Lib.run_firstCells_string (P:=P) w 1 s
   rw[hm] at hf;simp[Builtin.append_,run_underlying ht,run_underlying hu,sizeOf,typeInfo,hi,D,Builtin.lenOf,hm,hf] at h;obtain⟨rfl,_⟩:=h;exact .inl rfl
  ·have hr:=run_append_nil_string (P:=P) w t u ty e i (.int .u8 0) ht hu hi hz s ae ae (by rw[O];omega)
   rw[hr] at h;injection h with h1 h2;subst h1;exact .inr rfl
 ·by_cases J:n+s.size<=cap
  ·have a2:cur.size=cap:=by simpa using ay
   have hr:=Lib.run_append_room_string (P:=P) w t u ty e i ht hu hi D g n cap cur hg s J ae;rw[hr] at h;injection h with h1 h2;subst h1;exact .inl rfl
  ·have holds:∀j u,xs[j]?=some u->w.cell? ((⟨g,0,none⟩:Addr).add j)=some u:=I.cells (g:=g) rfl
   have hr:=Lib.run_append_grow_string (P:=P) w t u ty e i (.int .u8 0) ht hu hi hz ⟨g,0,none⟩ n cap xs (by rw[D];simpa using ax) holds s ae ae (O▸growslice_fits ae ae);rw[hr] at h;injection h with h1 h2;subst h1;exact .inr rfl
theorem Gk (s:ByteArray):Lib.strCells s=ij s.data.toList:=rfl
theorem vT {t u e:TypeId} (H:xf P t e (.int .u8 0) 1) (hu:P.underlying u=some .string)
  (D:w.ownsRow base e 1 v n (ij l)) (s:ByteArray) (ay:o.guard=none) (sl x:Operand)
  (ho:o.op= .call {callee:= .builtin .append,args:=#[sl,x],argTypes:=#[t,u]})
  (hs:a.eval sl=v) (hx:a.eval x= .string s) (hn:n+s.size<=1099511627776) (I:base<=w.heap.size) (N:Nat) (hN:N=n+s.size)
  (h:∀A' c' w',og w base e v N (ij (l++s.data.toList)) A' c' w'->wpList P ops Q rest (a.put o.dst (.slice A' N c')) w'):wpList P ops Q (o::rest) a w:=by
 subst hN;obtain⟨i,hi,hz,J,O⟩:=H.info;refine wpList_plain ay fun K hK=>?_;obtain⟨v',w',hr,h2,h3,h4⟩:=Lib.run_append_own_string (P:=P) w base t u o.type e i H.under hu hi hz J O v n _ D s (by unfold maxLen;omega) ae I;have hl:=RK (P:=P) (ty:=o.type) H.under hu hi hz J O D s hn hr;obtain⟨A',c',rfl, -⟩:=gD h2;unfold Oper.wp execOp;simp only[ho,resolve,invoke,builtin,Sem.run_bind,Sem.run_pure,Result.andThen_ok,qm,aW,iM,hs,hx,hr];refine hK _ _ (h A' c' w' ⟨?_,h3,hl,fun B W hB ax=>ax.grown h3 (aF hB I) fun k hk=>cA ((D.lt k hk).1)⟩);rw[Gk] at h2;simpa[ij] using h2
structure gS (w:World) (d:Nat) (r:Option Nat) (l:List UInt8):Prop where
 D:∃A c,w.heap[d]?=some (.cells #[.slice A l.length c] 218 (0,0))∧w.ownsRow (d+1) 5 1 (.slice A l.length c) l.length (ij l)∧(Value.slice A l.length c).ownBlock=r∧l.length≤c
theorem gS.jC (h:gS w d r l):d<w.heap.size/\∀g,r=some g->d<g/\g<w.heap.size:=by
 obtain⟨A,c,I,J,hr,_⟩:=h.D;refine⟨(aU.1 I).1,fun g hg=>?_⟩;have:=J.lt g (hr.trans hg);omega
theorem gS.reads (h:gS w d r l):
  ∃A c,w.cell? ⟨d,0,none⟩=some (.slice A l.length c)/\w.frozen? ⟨d,0,none⟩=false/\w.ownsRow (d+1) 5 1 (.slice A l.length c) l.length (ij l)/\(Value.slice A l.length c).ownBlock=r/\l.length<=c/\d<w.heap.size:=by
 obtain⟨A,c,I,J,hr,hc⟩:=h.D;exact⟨A,c,by simp[World.cell?,I],by simp[World.frozen?,I],J,hr,hc,h.jC.1⟩
theorem gS.grow {w4:World} {l':List UInt8} (h:gS w d r l) {A A':Option Addr} {c c' N:Nat} (h0:w.cell? ⟨d,0,none⟩=some (.slice A l.length c)) (J:l'.length=N)
  (I:w4.ownsRow (d+1) 5 1 (.slice A' N c') N (ij l')) (hg:w.grownBy w4 r) (O:(Value.slice A' N c').ownBlock=r\/∀g,(Value.slice A' N c').ownBlock=some g->w.heap.size<=g):
  ∃r',gS (w4.setCell ⟨d,0,none⟩ (.slice A' N c')) d r' l'/\(r'=r\/∀g,r'=some g->w.heap.size<=g)/\Leaves d r w (w4.setCell ⟨d,0,none⟩ (.slice A' N c')):=by
 subst J;obtain⟨A1,c1,hb,ax,hr,hc⟩:=h.D;have hd:=h.jC.1;have kd:w4.heap[d]?=w.heap[d]?:=hg.block d hd (by intro he;have:=(h.jC.2 d he.symm).1;omega);refine⟨_,⟨⟨A',c',?_,ownsRow_setCell_below I (by show d<d+1;omega) _,rfl,ie I⟩⟩,O,(Leaves.dy hg).setCell _ _⟩;rw[heap_setCell_same _ _ _ _ _ _ (kd.trans hb)];rfl
theorem vU (w:World):Wz 84 #[] w fun e w'=> ∃d,e= .returned (Pz d)/\w.heap.size<=d/\gS w' d none []/\Bz w w':=by
 go_enter Tryz.func84,Tryz.ntmps84
 go_wp2;go_ret;exact⟨_,rfl,af _,⟨⟨none,0,heap_alloc_new _ _,aM _ _ _ _,rfl,af _⟩⟩,(aa _ _).alloc (af _) _⟩
structure ry (w:World) (d:Nat) (r:Option Nat) (l':List UInt8) (w':World):Prop where
 at_:∃r',gS w' d r' l'∧(r'=r∨∀g,r'=some g→w.heap.size≤g)
 leaves:Leaves d r w w'
theorem ry.next {I J:World} {r1:Option Nat} (O:Leaves d r w I) (hr:r1=r\/∀g,r1=some g->w.heap.size<=g) (h:ry I d r1 l2 J):ry w d r l2 J:=by
 obtain⟨⟨r',h1,D⟩,h3⟩:=h;refine⟨⟨r',h1,?_⟩,O.trans h3 hr⟩;rcases D with rfl|D
 ·exact hr
 ·exact .inr fun g hg=>aF O.size (D g hg)
theorem Gl (d:Nat) (r:Option Nat) (l:List UInt8) (n size:Nat) (sz:Int) (w:World) (J:sz=size) (h:gS w d r l) (hn:n<18446744073709551616) (hs:size<=8) (hl:l.length<=1000000000):
  Wz 125 #[Pz d, .int .u64 n,Iz sz] w fun e w'=>e= .returned (.tuple #[])/\ry w d r (l++le size n) w':=by
 subst J
 go_enter Tryz.func125,Tryz.ntmps125
 go_wp2
 go_loopw [1,7] (fun v i wr=> ∃k m:Nat,k<=size/\i= Iz k/\v= .int .u64 m/\m<18446744073709551616/\Hid (m=n / 256 ^ k)/\ry w d r (l++le k n) wr) (fun _ i _=>size - (intOf i).toNat)
 case atStart=>exact⟨0,n,aB _,rfl,rfl,hn,by simp[Hid],⟨r,by simpa[le] using h, .inl rfl⟩,Leaves.refl _ _ _⟩
 case round=>
  obtain⟨k,m,hk,rfl,rfl,hm,HM,HW⟩:=hrel
  by_cases a5:k<size
  ·obtain⟨⟨r1,O,ax⟩,hL⟩:=HW
   have hlen:(l++le k n).length=l.length+k:=by rw[aC,length_le]
   obtain⟨L,eL⟩:=Zn (l++le k n);rw[<-eL] at O hlen;have EL:=ao eL;clear eL h;obtain⟨A,c,c0,f0,own,D,a6,ay⟩:=O.reads;have a7:(m:Int) % 256=((Ce m).toNat:Int):=by rw[rv];omega
   have HL:=ao hlen;clear hlen;have I:=ao D;clear D;have i1:(k:Int)<size:=ae
   go_wp2_with (at_builtin;refine Gj zC own (.int .u8 ((Ce m).toNat:Int)) rfl _ _ rfl rfl rfl rfl (cA HL.h) ae ?_;intro A4 c4 w4 p4 g4;have kd:w4.heap[d]?=wr.heap[d]?:=g4.block d ay (mM own ae);have k0:=Yd kd c0;have kf:=(aY (a:=⟨d,0,none⟩) kd).trans f0;clear kd)
   obtain⟨r2,W2,a0,a2⟩:=O.grow (l':=L++[Ce m]) (N:=L.length+1) c0 bT (by simpa[ij] using p4.own) (I.h▸g4) (by
    rcases p4.jV with h1|h1
    ·exact .inl (h1.trans I)
    ·exact .inr fun g hg=>by rw[h1] at hg;simp at hg;omega)
   go_roundw
   case rel=>exact⟨k+1,m / 256,ae,by go_num,by go_num,ae,(by show m / 256=n / 256 ^ (k+1);rw[HM.h,Vo,pw]),by rw[Ns,<-bD,<-EL.h,<-HM.h];exact ry.next hL ax ⟨⟨r2,W2,a0⟩,a2⟩⟩
   case measure=>simp[intOf];omega
  ·obtain rfl:k=size:=ae
   go_wp2
   go_end0
   exact⟨rfl,HW⟩
def gJ (n:Int):Nat:=(n % 18446744073709551616).toNat
theorem Nw (n:Int):IntKind.u64.wrap n=((gJ n:Nat):Int):=by rw[gL];unfold gJ;omega
theorem Nx (n:Int):gJ n<18446744073709551616:=by unfold gJ;omega
theorem uu (d:Nat) (r:Option Nat) (l:List UInt8) (n:Int) (w:World) (h:gS w d r l) (D:l.length<=1000000000):
  Wz 85 #[Pz d,Iz n] w fun e w'=>e= .returned (.tuple #[])/\ry w d r (l++le 1 (gJ n)) w':=by
 have hu:=Nw n
 go_enter Tryz.func85,Tryz.ntmps85
 go_wp2_with fail;refine(Gl d r l (gJ n) 1 1 _ rfl h (Nx n) ae D).mono ?_;rintro e I⟨rfl,hw⟩;go_wp2_with fail
 go_end0
 exact⟨rfl,hw⟩
theorem RM (d:Nat) (r:Option Nat) (l:List UInt8) (n:Int) (w:World) (h:gS w d r l) (D:l.length<=1000000000):
  Wz 86 #[Pz d,Iz n] w fun e w'=>e= .returned (.tuple #[])/\ry w d r (l++le 8 (gJ n)) w':=by
 have hu:=Nw n
 go_enter Tryz.func86,Tryz.ntmps86
 go_wp2_with fail;refine(Gl d r l (gJ n) 8 8 _ rfl h (Nx n) ae D).mono ?_;rintro e I⟨rfl,hw⟩;go_wp2_with fail
 go_end0
 exact⟨rfl,hw⟩
theorem RN (d:Nat) (r:Option Nat) (l:List UInt8) (n:Nat) (w:World) (h:gS w d r l) (D:l.length<=1000000000) (hn:n<4294967296):
  Wz 153 #[Pz d, .int .u32 n] w fun e w'=>e= .returned (.tuple #[])/\ry w d r (l++le 4 n) w':=by
 go_enter Tryz.func153,Tryz.ntmps153
 go_wp2_with fail;refine(Gl d r l n 4 4 _ rfl h ae ae D).mono ?_;rintro e I⟨rfl,hw⟩;go_wp2_with fail
 go_end0
 exact⟨rfl,hw⟩
theorem Jg (d:Nat) (r:Option Nat) (l:List UInt8) (w:World) (h:gS w d r l) (hl:l.length<=1000000000):
  Wz 88 #[Pz d] w (tN w l):=by
 obtain⟨A,c,c0,f0,own,D,I,J⟩:=h.reads
 go_enter Tryz.func88,Tryz.ntmps88
 go_wp2_with fail;refine(uY A l.length c l _ rfl ae (Cells.O own)).mono ?_;rintro e w'⟨A',c',rfl,hf⟩;go_wp2_with fail;go_ret;exact⟨_,_,rfl,hf⟩
def rz (s:List UInt8):List UInt8:=Ce (min s.length 255)::s.take 255
theorem oZ (s:List UInt8):(rz s).length=min s.length 255+1:=by simp[rz];omega
theorem RO (d:Nat) (r:Option Nat) (l:List UInt8) (s:ByteArray) (w:World) (h:gS w d r l) (hl:l.length<=1000000000) (hs:s.size<=9223372036854775807):
  Wz 87 #[Pz d, .string s] w fun e w'=>e= .returned (.tuple #[])/\ry w d r (l++rz s.data.toList) w':=by
 go_enter Tryz.func87,Tryz.ntmps87
 by_cases hk:s.size<=255
 ·have e1:rz s.data.toList=Ce s.size::s.data.toList:=by
   have J:s.data.toList.length=s.size:=rfl;unfold rz;rw[J,rP hk,aL ae]
  have e2:gJ (s.size:Int)=s.size:=by unfold gJ;omega
  rw[e1];clear e1;have E2:=ao e2;clear e2;go_wp2_with fail;refine(uu d r l (s.size:Int) _ h hl).mono ?_;rintro e w1⟨rfl,⟨r1,W1,ax⟩,hL⟩;rw[E2.h] at W1;have hlen:(l++le 1 s.size).length=l.length+1:=by simp[le]
  obtain⟨L,eL⟩:=Zn (l++le 1 s.size);rw[<-eL] at W1 hlen;obtain⟨EL,O⟩:=dF eL hlen;clear eL hlen h;obtain⟨A,c,c0,f0,own,D,a7,ay⟩:=W1.reads;have I:=ao D;clear D
  go_wp2_with (at_builtin;refine vT zC Tryz.underlying9 own s rfl _ _ rfl rfl rfl (cA O.h) ae _ rfl ?_;intro A4 c4 w4 p4;have kd:w4.heap[d]?=w1.heap[d]?:=p4.grown.block d ay (mM own ae);have k0:=Yd kd c0;have kf:=(aY (a:=⟨d,0,none⟩) kd).trans f0;clear kd)
  obtain⟨r2,W2,a0,a2⟩:=W1.grow (l':=L++s.data.toList) (N:=L.length+s.size) c0 (by rw[aC];rfl) p4.own (I.h▸p4.grown) (by
   rcases p4.jV with J|J
   ·exact .inl (J.trans I)
   ·exact .inr fun g hg=>by rw[J] at hg;simp at hg;omega)
  go_end0
  refine⟨rfl,?_⟩;have e3:l++Ce s.size::s.data.toList=L++s.data.toList:=by rw[EL.h];simp[le]
  rw[e3];exact ry.next hL ax ⟨⟨r2,W2,a0⟩,a2⟩
 ·have J:s.data.toList.length=s.size:=rfl
  obtain⟨t,et⟩:=Zn (s.extract 0 255);have a5:t.size=255:=by rw[et,ByteArray.size_extract];omega
  have a6:t.data.toList=s.data.toList.take 255:=by rw[et,ByteArray.data_extract,Array.toList_extract];simp[List.extract]
  have e1:rz s.data.toList=Ce 255::t.data.toList:=by
   unfold rz;rw[J,Nat.min_eq_right ae,a6]
  rw[e1];clear e1 J a6;have ET:=et.symm;clear et;go_wp2_with fail;refine(uu d r l 255 _ h hl).mono ?_;rintro e w1⟨rfl,⟨r1,W1,ax⟩,hL⟩;rw[show gJ 255=255 by decide] at W1;have hlen:(l++le 1 255).length=l.length+1:=by simp[le]
  obtain⟨L,eL⟩:=Zn (l++le 1 255);rw[<-eL] at W1 hlen;obtain⟨EL,O⟩:=dF eL hlen;clear eL hlen h;obtain⟨A,c,c0,f0,own,D,a7,ay⟩:=W1.reads;have I:=ao D;clear D
  go_wp2_with (at_builtin;refine vT zC Tryz.underlying9 own t rfl _ _ rfl rfl rfl (cA O.h) ae (L.length+255) (by rw[a5]) ?_;intro A4 c4 w4 p4;have kd:w4.heap[d]?=w1.heap[d]?:=p4.grown.block d ay (mM own ae);have k0:=Yd kd c0;have kf:=(aY (a:=⟨d,0,none⟩) kd).trans f0;clear kd)
  obtain⟨r2,W2,a0,a2⟩:=W1.grow (l':=L++t.data.toList) (N:=L.length+255) c0 (by rw[aC];exact congrArg (L.length+·) a5) p4.own (I.h▸p4.grown) (by
   rcases p4.jV with J|J
   ·exact .inl (J.trans I)
   ·exact .inr fun g hg=>by rw[J] at hg;simp at hg;omega)
  go_end0
  refine⟨rfl,?_⟩;have e3:l++Ce 255::t.data.toList=L++t.data.toList:=by rw[EL.h];simp[le]
  rw[e3];exact ry.next hL ax ⟨⟨r2,W2,a0⟩,a2⟩
end Go.Proofs.YtbaaheidifacaaaGreat
