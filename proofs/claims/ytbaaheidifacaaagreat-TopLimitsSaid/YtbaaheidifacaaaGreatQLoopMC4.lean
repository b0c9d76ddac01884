import Derived.Test.YtbaaheidifacaaaGreatQDiff1
import Derived.Test.YtbaaheidifacaaaGreatQFineC4
set_option linter.defProp false
set_option linter.unusedVariables false
set_option linter.unusedSimpArgs false
set_option maxRecDepth 100000
set_option maxHeartbeats 12800000
namespace Go.Proofs.YtbaaheidifacaaaGreat
open Go.RowKit
section
variable {F:Nat→Prop} {w w':World} {g:Nat} {P:PD} {C:zt} {Gs R:Nat→Prop} {m:Mk} {i:Nat}
theorem cC.new {B:Nat} (hm:jW w Gs R g P (Mk.new P) C) (I:B<=g) (J:B<=C.ub) (D:∀j,Gs j\/R j->B<=j):cC (fun j=>j<B) w g P C Gs R (Mk.new P) 0:=
 ⟨hm,by rintro j (rfl|rfl|h|h) O;omega;omega;(have:=D j (.inl h);omega);(have:=D j (.inr h);omega),aB _⟩
end
end Go.Proofs.YtbaaheidifacaaaGreat
