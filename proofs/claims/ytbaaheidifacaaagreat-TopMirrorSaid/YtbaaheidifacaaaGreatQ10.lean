import Derived.Test.YtbaaheidifacaaaGreatQ3
import Derived.Test.YtbaaheidifacaaaGreatQ4
set_option linter.defProp false
set_option linter.unusedVariables false
set_option linter.unusedSimpArgs false
set_option maxRecDepth 100000
set_option maxHeartbeats 12800000
namespace Go.Proofs.YtbaaheidifacaaaGreat
open Go.RowKit
end Go.Proofs.YtbaaheidifacaaaGreat
