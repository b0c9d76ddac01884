import Derived.Test.YtbaaheidifacaaaGreatQCmdPC5
import Derived.Test.YtbaaheidifacaaaGreatQMk7
set_option linter.defProp false
set_option linter.unusedVariables false
set_option linter.unusedSimpArgs false
set_option maxRecDepth 100000
set_option maxHeartbeats 12800000
namespace Go.Proofs.YtbaaheidifacaaaGreat
open Go.RowKit
theorem aat (g:Nat) (P:PD) (m:Mk) (Gs R:Nat->Prop) (C:zt) (w:World) (h:jW w Gs R g P m C):
  Wz 31 #[Pz g] w fun e w'=>e= .returned (Iz (cK m.S:Int))/\w=w':=by
 have I:Cz w g 11 (Pz C.s):=h.b.D.cell 11;have H:=ao h;clear h
 go_enter Tryz.func31,Tryz.ntmps31
 go_wp2_with fail;refine(LN C.s P m.S Gs R w H.h.st).mono ?_;rintro e u⟨rfl,rfl⟩;go_wp2_with fail;go_ret;exact⟨rfl,rfl⟩
end Go.Proofs.YtbaaheidifacaaaGreat
