/-
  The model's == and != at the program's structs of ints. Conditions: none.
-/
import Derived.Test.YtopaapgbenpbaaaDoorKit
import Derived.Laws.StructEq
namespace Go.Proofs.YtopaapgbenpbaaaDoor
open Go.RowKit
set_option linter.unusedVariables false

end Go.Proofs.YtopaapgbenpbaaaDoor
