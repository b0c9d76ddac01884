import Derived.Test.YtbaaheidifacaaaGreatQRunXC1
set_option linter.defProp false
set_option linter.unusedVariables false
set_option linter.unusedSimpArgs false
set_option maxRecDepth 100000
set_option maxHeartbeats 12800000
namespace Go.Proofs.YtbaaheidifacaaaGreat
open Go.RowKit
theorem FT (s:Int) (w:World):Wz 22 #[Iz s] w fun e w'=>e= .returned (Iz (if s=1\/s=2 then 3 - s else s))/\w=w':=by
 by_cases D:s=1
 ·subst D
  go_enter Tryz.func22,Tryz.ntmps22
  go_wp2;go_ret;exact⟨rfl,rfl⟩
 ·by_cases I:s=2
  ·subst I
   go_enter Tryz.func22,Tryz.ntmps22
   go_wp2;go_ret;exact⟨rfl,rfl⟩
  ·rw[if_neg ae]
   have e1:(s==1)=false:=beq_eq_false_iff_ne.2 D;have e2:(s==2)=false:=beq_eq_false_iff_ne.2 I;clear D I
   go_enter Tryz.func22,Tryz.ntmps22
   go_wp2;go_ret;exact⟨rfl,rfl⟩
end Go.Proofs.YtbaaheidifacaaaGreat
