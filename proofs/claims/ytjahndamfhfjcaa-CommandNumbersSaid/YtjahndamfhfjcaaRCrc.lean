/-
  The reference's sum.
-/
import Derived.Test.YtjahndamfhfjcaaCrc
namespace Go.Proofs.Ytjahndamfhfjcaa
open Go.RowKit
set_option linter.unusedVariables false

end Go.Proofs.Ytjahndamfhfjcaa
