import Derived.Test.YtbaaheidifacaaaGreatQReader
import Derived.Lib.AppendZeros
set_option linter.defProp false
set_option linter.unusedVariables false
set_option linter.unusedSimpArgs false
set_option maxRecDepth 100000
set_option maxHeartbeats 12800000
namespace Go.Proofs.YtbaaheidifacaaaGreat
open Go.RowKit
theorem ML (w:World) (ty:TypeId) (k:Nat) (I:0<k) (hk:k<=1000000):
  ∃c w',(Builtin.append_ #[62,3] ty #[.slice none 0 0,Iz k]).run Tryz.prog w= .ok (.slice (some ⟨w.heap.size,0,none⟩) k c) w'/\k<=c/\c<=maxLen/\
   w'.ownsRow w.heap.size 5 1 (.slice (some ⟨w.heap.size,0,none⟩) 0 c) 0 []/\Bz w w':=by
 obtain⟨i,hi,J,O,D⟩:=zC.info;have hs:0<i.size:=ae;have h1:=Lib.run_append_nil_zeros (P:=Tryz.prog) w 62 3 ty 5 i _ .i64 .i64 zC.under Tryz.underlying3 hi J k I hs ae (by rw[D];omega);have hg:k<=grownCap w k 0 5:=grownCap_ge w _ _ _;have hm:=grownCap_le_maxLen w k 0 5 (by unfold maxLen;omega);exact⟨_,_,h1,hg,hm,World.ownsRow_made (base:=w.heap.size) w.drew _ _ (af _) hm (by simp[Builtin.zeroCells,Value.cells];omega),(aS (aa _ _)).alloc bT _⟩
theorem Vb (a b:List UInt8):ij (a++b)=ij a++ij b:=by simp[ij]
theorem Qo (k:Nat) (D:0<k) (I:k<=1000000) (w:World):
  Wz 119 #[.slice none 0 0,Iz k] w fun e w'=> ∃A c,e= .returned (.slice A 0 c)/\w'.ownsRow w.heap.size 5 1 (.slice A 0 c) 0 []/\Bz w w':=by
 go_enter Tryz.func119,Tryz.ntmps119
 obtain⟨c,w',hr,O,h2,own,J⟩:=ML w 62 k D I;have i0:¬((k:Int)<0):=ae;have i1:(0:Int)<k:=ae
 go_wp2_with (at_builtin;refine Lib.wpList_append_run _ rfl _ _ _ _ rfl _ _ rfl rfl _ _ hr ?_)
 go_ret;exact⟨_,_,rfl,own,J⟩
theorem Dn (b:Nat) (A1:Option Addr) (n1 c1:Nat) (l1:List UInt8) (A2:Option Addr) (n2 c2:Nat) (l2:List UInt8) (w:World) (hb:b<w.heap.size)
  (h0:w.cell? ⟨b,0,none⟩=some (.slice A1 n1 c1)) (h1:w.cell? ⟨b,1,none⟩=some (.slice A2 n2 c2)) (e1:l1.length=n1) (e2:l2.length=n2) (k1:n1<=1000) (k2:n2<=1000) (p1:0<n1)
  (ax:Cells w A1 (ij l1)) (ay:Cells w A2 (ij l2)):
  Wz 82 #[.slice (some ⟨b,0,none⟩) 2 2] w (tN w (l1++l2)):=by
 obtain⟨E1,E2⟩:=dF e1 e2;clear e1 e2
 go_enter Tryz.func82,Tryz.ntmps82
 go_wp2_with fail;obtain⟨N,eN⟩:=Zn (n1+n2);have i1:¬(n1:Int)<0:=ae;have i2:¬(N:Int)<0:=ae;have x1:(0:Int)+n1=n1:=ae;have x2:(n1:Int)+n2=N:=ae;have J:=ao eN;clear eN
 go_loopw [3,11] (fun s i wr=>wr=w/\((i= Iz 0/\s= Iz 0)\/(i= Iz 1/\s= Iz n1)\/(i= Iz 2/\s= Iz N))) (fun _ i _=>2 - (intOf i).toNat)
 case atStart=>exact⟨rfl, .inl ⟨rfl,rfl⟩⟩
 case round=>
  obtain⟨rfl,hrel⟩:=hrel;rcases hrel with⟨rfl,rfl⟩|⟨rfl,rfl⟩|⟨rfl,rfl⟩
  ·go_wp2_with fail
   go_roundw
   case rel=>exact⟨trivial, .inr (.inl ⟨by go_num,rfl⟩)⟩
   case measure=>simp[intOf]
  ·go_wp2_with fail
   go_roundw
   case rel=>exact⟨trivial, .inr (.inr ⟨by go_num,rfl⟩)⟩
   case measure=>simp[intOf]
  ·go_wp2_with fail
   refine(Qo N (cA J.h) (cA J.h) _).mono ?_;rintro e w1⟨A,c,rfl,D,B1⟩;have a0:=wr.heap.size;go_wp2_with fail
   go_loopw [6,27] (fun s i O=> ∃(A:Option Addr) (c:Nat),Bz wr O/\
    ((i= Iz 0/\s= .slice A 0 c/\O.ownsRow wr.heap.size 5 1 (.slice A 0 c) 0 [])\/
     (i= Iz 1/\s= .slice A n1 c/\O.ownsRow wr.heap.size 5 1 (.slice A n1 c) n1 (ij l1))\/
     (i= Iz 2/\s= .slice A N c/\O.ownsRow wr.heap.size 5 1 (.slice A N c) N (ij (l1++l2))))) (fun _ i _=>2 - (intOf i).toNat)
   case atStart=>exact⟨A,c,B1, .inl ⟨rfl,rfl,D⟩⟩
   case round=>
    clear D B1;obtain⟨A,c,B,hrel⟩:=hrel;have g0:=Yb B hb h0;have g1:=Yb B hb h1;have hs:=B.size;have q1:=ax.below B;have q2:=ay.below B;have z1:(ij l1).length=n1:=(kW l1).trans E1;have z2:(ij l2).length=n2:=(kW l2).trans E2;have y1:0+n1<=140737488355328:=ae;have y2:n1+n2<=140737488355328:=ae;rcases hrel with⟨rfl,rfl,own⟩|⟨rfl,rfl,own⟩|⟨rfl,rfl,own⟩
    ·go_wp2_with (at_builtin;refine uz zC own (news:=ij l1) rfl _ _ rfl rfl rfl z1 q1 (sw l1) y1 hs n1 (ij l1) (ec n1).symm rfl ?_;intro A4 c4 w4 I)
     go_roundw
     case rel=>exact⟨A4,c4,I.below _ _ (af _) B, .inr (.inl ⟨by go_num,rfl,I.own⟩)⟩
     case measure=>simp[intOf]
    ·go_wp2_with (at_builtin;refine uz zC own (news:=ij l2) rfl _ _ rfl rfl rfl z2 q2 (sw l2) y2 hs N (ij (l1++l2)) J (Vb l1 l2) ?_;intro A4 c4 w4 I)
     go_roundw
     case rel=>exact⟨A4,c4,I.below _ _ (af _) B, .inr (.inr ⟨by go_num,rfl,I.own⟩)⟩
     case measure=>simp[intOf]
    ·go_wp2_with fail
     go_ret;have hl:(l1++l2).length=N:=by rw[aC,E1.h,E2.h,J.h]
     subst hl;exact kR.mk rfl own B
end Go.Proofs.YtbaaheidifacaaaGreat
