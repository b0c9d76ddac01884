import Derived.Test.YtbaaheidifacaaaGreatQMkSC1
set_option linter.defProp false
set_option linter.unusedVariables false
set_option linter.unusedSimpArgs false
set_option maxRecDepth 100000
set_option maxHeartbeats 12800000
namespace Go.Proofs.YtbaaheidifacaaaGreat
open Go.RowKit
theorem acj (g:Nat) (P:PD) (m:Mk) (Gs R:Nat->Prop) (C:zt) (id fi o0 o1 o2 o3:Int) (o4 fk:Bool) (w:World) (h:jW w Gs R g P m C) (hf:XU w C.s id fi o0 o1 o2 o3 o4 fk):
  Wz 35 #[Pz g,Iz id] w fun e w'=>e= .returned (.tuple #[Iz fi, .agg #[Iz o0,Iz o1,Iz o2,Iz o3, .bool o4], .bool fk])/\Bz w w':=by
 obtain⟨w0,J⟩:=Zn (w.alloc (.cells #[Iz 0,Iz 0,Iz 0,Iz 0, .bool false] 81));obtain⟨go,O⟩:=Zn w.heap.size;have D0:=Zq J O;have B0:=Zw J;have a0:Cz w0 g 11 (Pz C.s):=(h.b.below B0).D.cell 11;obtain⟨HF,ax,a2,a3⟩:=mh hf B0 D0 O;clear h hf B0 D0
 go_enter Tryz.func35,Tryz.ntmps35
 go_upto_region 1 with(fail)
 rw[<-J,<-O];clear J O;go_wp2_with fail;refine(HF w0 ax).mono ?_;rintro e w1⟨rfl,b1⟩;have I:=a2.h.below b1;have a4:w.heap.size<=go:=bu a3.symm;have z0:=I.cell 0;have z1:=I.cell 1;have z2:=I.cell 2;have z3:=I.cell 3;have z4:=I.cell 4;have y0:=I.frozen 0;have y1:=I.frozen 1;have y2:=I.frozen 2;have y3:=I.frozen 3;have y4:=I.frozen 4;have hw:=bO (us:=[Iz o0,Iz o1,Iz o2,Iz o3, .bool o4]) I rfl;have hb:=bA (us:=[Iz o0,Iz o1,Iz o2,Iz o3, .bool o4]) (i:=0) a4 (dW ax b1);simp only[fW] at hw hb;obtain⟨HW,HB⟩:=dF hw hb;clear I hw hb b1 a0;go_wp2_with fail
 (try simp only[Exit.inBlock,Exit.then])
 obtain⟨wz,ay⟩:=Zn (((((w1.setCell ⟨go,0,none⟩ (Iz o0)).setCell ⟨go,0+1,none⟩ (Iz o1)).setCell ⟨go,0+1+1,none⟩ (Iz o2)).setCell ⟨go,0+1+1+1,none⟩ (Iz o3)).setCell ⟨go,0+1+1+1+1,none⟩ (.bool o4));have hw:=HW.h;have hb:=HB.h;rw[<-ay] at hw hb;refine iv ay ?_;have r0:=hw.cell 0;have r1:=hw.cell 1;have r2:=hw.cell 2;have r3:=hw.cell 3;have r4:=hw.cell 4;clear z0 z1 z2 z3 z4 y0 y1 y2 y3 y4;refine bodyPost_ret (v:= .tuple #[Iz fi, .agg #[Iz o0,Iz o1,Iz o2,Iz o3, .bool o4], .bool fk]) (by simp[results,Tryz.results35,go_sem,r0,r1,r2,r3,r4];try rfl) rfl ?_;exact⟨rfl,hb⟩
end Go.Proofs.YtbaaheidifacaaaGreat
