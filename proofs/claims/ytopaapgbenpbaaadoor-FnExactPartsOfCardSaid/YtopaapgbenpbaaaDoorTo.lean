/-
  The law's copies of slices of structs (make, then one element a round), and the law's counting down. Conditions: the length is at most 2^20.
-/
import Derived.Test.YtopaapgbenpbaaaDoorFill
import Derived.Test.YtopaapgbenpbaaaDoorScal
namespace Go.Proofs.YtopaapgbenpbaaaDoor
open Go.RowKit
set_option linter.unusedVariables false

end Go.Proofs.YtopaapgbenpbaaaDoor
