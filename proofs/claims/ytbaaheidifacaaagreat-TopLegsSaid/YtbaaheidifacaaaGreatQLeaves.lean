import Derived.Test.YtbaaheidifacaaaGreatQElem8
import Derived.StillTailTactics
import Derived.WalkSpells
set_option linter.defProp false
set_option linter.unusedVariables false
set_option linter.unusedSimpArgs false
set_option maxRecDepth 100000
set_option maxHeartbeats 12800000
namespace Go.Proofs.YtbaaheidifacaaaGreat
variable {A:Option Addr} {c d s:Nat} {l:List UInt8} {r r':Option Nat} {v:Value} {w w':World} {xs:List Value}
open Go.RowKit
structure Leaves (d:Nat) (r:Option Nat) (w w':World):Prop where
 os:w'.os=w.os
 tape:w'.tape=w.tape
 output:w'.output=w.output
 size:w.heap.size≤w'.heap.size
 block:∀k,k<w.heap.size→k≠d→some k≠r→w'.heap[k]?=w.heap[k]?
theorem Leaves.refl (d:Nat) (r:Option Nat) (w:World):Leaves d r w w:=⟨rfl,rfl,rfl,af _,fun _ _ _ _=>rfl⟩
theorem Leaves.bL (h:Bz w w'):Leaves d r w w':=⟨h.os,h.tape,h.output,h.size,fun k D _ _=>h.block k D⟩
theorem Leaves.dy (h:w.grownBy w' r):Leaves d r w w':=⟨h.os,h.tape,h.output,h.size,fun k D _ hr=>h.block k D hr⟩
theorem Leaves.trans {w'':World} (h:Leaves d r w w') (D:Leaves d r' w' w'') (hr:r'=r\/∀g,r'=some g->w.heap.size<=g):Leaves d r w w'':=by
 refine⟨D.os.trans h.os,D.tape.trans h.tape,D.output.trans h.output,aF h.size D.size,fun k J hd I=>?_⟩;refine(D.block k (aA J h.size) hd ?_).trans (h.block k J hd I);rcases hr with rfl|hr
 ·exact I
 ·intro he
  have:=hr k he.symm;omega
theorem Leaves.setCell (h:Leaves d r w w') (i:Nat) (u:Value):Leaves d r w (w'.setCell ⟨d,i,none⟩ u):=
 ⟨h.os,h.tape,h.output,by simpa[World.setCell] using h.size,fun k D hd hr=>(av _ _ _ _ hd).trans (h.block k D hd hr)⟩
theorem Leaves.below {B:Nat} (h:Leaves d r w w') (hd:B<=d) (hr:∀g,r=some g->B<=g) (D:B<=w.heap.size):Below B w w':=
 ⟨h.os,h.tape,h.output,h.size,fun k I=>h.block k ae ae (fun he=>cA (hr k he.symm))⟩
theorem Leaves.cells (h:Leaves d r w w') (hc:Cells w A xs) (D:∀b o,A=some ⟨b,o,none⟩->b≠d/\some b≠r):Cells w' A xs:=
 hc.keep h.size fun b o hA I k=>gK (h.block b I (D b o hA).1 (D b o hA).2)
theorem OA {w4:World} {e:TypeId} {n D:Nat} {L:List Value} (hd:d<w.heap.size) (I:w.ownsRow (d+1) e 1 v n xs) (p:og w (d+1) e v D L A c w4):
  w4.heap[d]?=w.heap[d]?:=p.grown.block d hd (mM I ae)
theorem uY (A:Option Addr) (n c:Nat) (l:List UInt8) (w:World) (hn:l.length=n) (O:n<=1099511627776) (hA:Cells w A (ij l)):
  Wz 126 #[.slice A n c] w (tN w l):=by
 subst hn;rcases A with _|a
 ·have I:l=[]:=by
   rcases l with _|⟨x,l⟩
   ·rfl
   ·obtain⟨b,o,h,_⟩:=hA (by simp[ij])
    cases h
  subst I;have D:=Lib.run_eql_slice_nil (P:=Tryz.prog) w 62 5 none 0 c 0 0 Tryz.underlying62
  go_enter Tryz.func126,Tryz.ntmps126
  go_wp2;go_ret;exact kR.nil _ _ _
 ·have D:=Lib.run_eql_slice_nil (P:=Tryz.prog) w 62 5 (some a) l.length c 0 0 Tryz.underlying62
  go_enter Tryz.func126,Tryz.ntmps126
  go_wp2_with (at_builtin;refine nJ zC (cI (base:=w.heap.size) w #[] 0 (af _) (aB _) rfl) (news:=ij l) rfl _ _ rfl rfl rfl (kW l) (hA.alloc _) (sw l) ae bT l.length (ij l) ae bT ?_;intro A4 c4 w4 J)
  go_ret;exact kR.mk rfl J.own (J.below _ _ (af _) ((aa _ _).alloc (af _) _))
structure fj (w:World) (d:Nat) (r:Option Nat) (l:List UInt8) (s:Nat):Prop where
 D:∃A c,w.heap[d]?=some (.cells #[.slice A l.length c,Iz (s:Int)] 151 (0,0))∧w.ownsRow (d+1) 5 1 (.slice A l.length c) l.length (ij l)∧(Value.slice A l.length c).ownBlock=r∧l.length≤c
 le:s≤l.length
 small:l.length≤1048576
theorem fj.jC (h:fj w d r l s):d<w.heap.size/\∀g,r=some g->d<g/\g<w.heap.size:=by
 obtain⟨A,c,I,J,hr,_⟩:=h.D;refine⟨(aU.1 I).1,fun g hg=>?_⟩;have:=J.lt g (hr.trans hg);omega
theorem fj.keep (h:fj w d r l s) (hd:w'.heap[d]?=w.heap[d]?) (hr:∀g,r=some g->w'.heap[g]?=w.heap[g]?) (hs:w.heap.size<=w'.heap.size):fj w' d r l s:=by
 obtain⟨A,c,O,J,I,hc⟩:=h.D;refine⟨⟨A,c,hd.trans O,?_,I,hc⟩,h.le,h.small⟩;refine⟨J.1,?_⟩;rcases J.2 with h0|⟨g,cap,cur,hv,hg,hh,rest⟩
 ·exact .inl h0
 ·refine .inr ⟨g,cap,cur,hv,hg,?_,rest⟩
  have:r=some g:=by rw[<-I,hv];rfl
  rw[hr g this];exact hh
theorem fj.below (h:fj w d r l s) (D:Bz w w'):fj w' d r l s:=
 h.keep (D.block d h.jC.1) (fun g hg=>D.block g (h.jC.2 g hg).2) D.size
theorem fj.other {D:Nat} (h:fj w d r l s) (I:Leaves D r' w w') (O:d≠D) (h2:some d≠r') (J:∀g,r=some g->g≠D/\some g≠r'):fj w' d r l s:=
 h.keep (I.block d h.jC.1 O h2) (fun g hg=>I.block g (h.jC.2 g hg).2 (J g hg).1 (J g hg).2) I.size
theorem fj.reads (h:fj w d r l s):
  ∃A c,w.cell? ⟨d,0,none⟩=some (.slice A l.length c)/\w.cell? ⟨d,1,none⟩=some (Iz (s:Int))/\w.frozen? ⟨d,0,none⟩=false/\w.frozen? ⟨d,1,none⟩=false/\
   w.ownsRow (d+1) 5 1 (.slice A l.length c) l.length (ij l)/\(Value.slice A l.length c).ownBlock=r/\l.length<=c/\d<w.heap.size/\s<=l.length/\l.length<=1048576:=by
 obtain⟨A,c,I,J,hr,hc⟩:=h.D;refine⟨A,c,by simp[World.cell?,I],by simp[World.cell?,I],by simp[World.frozen?,I],by simp[World.frozen?,I],J,hr,hc,h.jC.1,h.le,h.small⟩
theorem fj.block (h:fj w d r l s) (I:w.cell? ⟨d,0,none⟩=some (.slice A l.length c)):
  w.heap[d]?=some (.cells #[.slice A l.length c,Iz (s:Int)] 151 (0,0)):=by
 obtain⟨A',c',J,_⟩:=h.D;simp only[World.cell?,J] at I;simp at I;obtain⟨rfl,rfl⟩:=I;exact J
theorem fj.YW {n:Nat} (I:w.heap[d]?=some (.cells #[v,Iz (s:Int)] 151 (0,0))) (hn:l.length=n)
  (J:w.ownsRow (d+1) 5 1 (.slice A n c) n (ij l)) (hc:n<=c) (hs:s<=n) (D:n<=1048576):fj (w.setCell ⟨d,0,none⟩ (.slice A n c)) d (Value.slice A n c).ownBlock l s:=by
 subst hn;refine⟨⟨A,c,?_,ownsRow_setCell_below J (by show d<d+1;omega) _,rfl,hc⟩,hs,D⟩;rw[heap_setCell_same _ _ _ _ _ _ I];rfl
theorem Va (w:World):Wz 48 #[] w fun e w'=> ∃d,e= .returned (Pz d)/\w.heap.size<=d/\fj w' d none [] 0/\Bz w w':=by
 go_enter Tryz.func48,Tryz.ntmps48
 go_wp2;go_ret;refine⟨_,rfl,af _,⟨⟨none,0,heap_alloc_new _ _,aM _ _ _ _,rfl,af _⟩,af _,bT⟩,(aa _ _).alloc (af _) _⟩
theorem Qj (d:Nat) (r:Option Nat) (l:List UInt8) (s:Nat) (w:World) (h:fj w d r l s):
  Wz 113 #[Pz d] w (tN w l):=by
 obtain⟨A,c,J,h1,f0,f1,D,hr,hc,hd,hs,I⟩:=h.reads
 go_enter Tryz.func113,Tryz.ntmps113
 go_wp2_with (go_at_call 126;refine(uY A l.length c l _ rfl ae (Cells.O D)).mono ?_;rintro e w'⟨A',c',rfl,hf⟩)
 go_ret;exact⟨_,_,rfl,hf⟩
theorem MH (d:Nat) (r:Option Nat) (l x:List UInt8) (s:Nat) (A:Option Addr) (n c:Nat) (w:World) (h:fj w d r l s) (hn:x.length=n) (J:l.length+x.length<=1048576) (hA:Cells w A (ij x)):
  Wz 118 #[Pz d, .slice A n c] w fun e w'=>e= .returned (Iz 0)/\∃r',fj w' d r' (l++x) s/\(r'=r\/∀g,r'=some g->w.heap.size<=g)/\Leaves d r w w':=by
 subst hn;obtain⟨A1,c1,O,I,f0,f1,ho,hr,hc,hd,hs,ax⟩:=h.reads
 go_enter Tryz.func118,Tryz.ntmps118
 go_wp2_with (at_builtin;refine nJ zC ho (news:=ij x) rfl _ _ rfl rfl rfl (kW x) hA (sw x) ae ae (l.length+x.length) (ij (l++x)) rfl (by simp[ij]) ?_;intro A4 c4 w4 D;have kd:=OA hd ho D;have k0:=Yd kd O;have kf:=(aY (a:=⟨d,0,none⟩) kd).trans f0)
 go_ret;refine⟨rfl,_,fj.YW (kd.trans (h.block O)) bT D.own (ie D.own) ae ae,?_,(Leaves.dy (hr▸D.grown)).setCell _ _⟩;rcases D.jV with I|I
 ·exact .inl (I.trans hr)
 ·exact .inr fun g hg=>by rw[I] at hg;injection hg with hg;omega
theorem Tt (d:Nat) (r:Option Nat) (l x:List UInt8) (s:Nat) (A:Option Addr) (n c:Nat) (w:World) (h:fj w d r l s) (hn:x.length=n) (J:x.length<=1048576) (hA:Cells w A (ij x)):
  Wz 115 #[Pz d, .slice A n c] w fun e w'=>e= .returned (Iz 0)/\∃r',fj w' d r' x x.length/\(∀g,r'=some g->w.heap.size<=g)/\Leaves d none w w':=by
 subst hn;obtain⟨A1,c1,h0,h1,f0,f1,ho,hr,hc,hd,hs,ax⟩:=h.reads
 go_enter Tryz.func115,Tryz.ntmps115
 go_wp2_with (go_at_call 126;refine(uY A x.length c x _ rfl ae hA).mono ?_;rintro e w4⟨A',c',rfl,D, -,hle, -,hb⟩;have kd:=hb.block d hd;have k0:=Yd kd h0;have k1:=Yd kd h1;have kf:=(aY (a:=⟨d,0,none⟩) kd).trans f0;have ay:=(aY (a:=⟨d,1,none⟩) kd).trans f1)
 go_ret;have I:w4.ownsRow (d+1) 5 1 (.slice A' x.length c') x.length (ij x):=ch D ae;have O:w4.heap[d]?=some (.cells #[.slice A1 l.length c1,Iz (s:Int)] 151 (0,0)):=kd.trans (h.block h0);refine⟨rfl,(Value.slice A' x.length c').ownBlock,?_,fun g hg=>(D.lt g hg).1,((Leaves.bL hb).setCell _ _).setCell _ _⟩;refine⟨⟨A',c',?_,ownsRow_setCell_below (ownsRow_setCell_below I (by show d<d+1;omega) _) (by show d<d+1;omega) _,rfl,hle⟩,af _,J⟩;rw[heap_setCell_same _ _ _ _ _ _ (heap_setCell_same _ _ _ _ _ _ O)];rfl
end Go.Proofs.YtbaaheidifacaaaGreat
