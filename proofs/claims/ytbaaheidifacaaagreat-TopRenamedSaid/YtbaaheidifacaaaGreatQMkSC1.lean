import Derived.Test.YtbaaheidifacaaaGreatQMk7
set_option linter.defProp false
set_option linter.unusedVariables false
set_option linter.unusedSimpArgs false
set_option maxRecDepth 100000
set_option maxHeartbeats 12800000
namespace Go.Proofs.YtbaaheidifacaaaGreat
open Go.RowKit
theorem Z5 (g:Nat) (P:PD) (m:Mk) (Gs R:Nat->Prop) (C:zt) (w:World) (h:jW w Gs R g P m C):
  Wz 32 #[Pz g] w fun e w'=> ∃s' I R',e= .returned (Pz s')/\dR w' I R' s' P m.S/\(∀j,I j->w.heap.size<=j)/\Bz w w':=by
 have J:Cz w g 11 (Pz C.s):=h.b.D.cell 11;have H:=ao h;clear h
 go_enter Tryz.func32,Tryz.ntmps32
 go_wp2_with fail;refine(PW C.s P m.S Gs R w H.h.st).mono ?_;rintro e u⟨s',I,R',rfl,O,h2,h3⟩;go_wp2_with fail;go_ret;exact⟨s',I,R',rfl,O,h2,h3⟩
end Go.Proofs.YtbaaheidifacaaaGreat
