/-
  Comparing slices element by element: the law's eq functions, the reference's, slices.Equal. Conditions: the lengths fit an int.
-/
import Derived.Test.YtopaapgbenpbaaaDoorSl
import Derived.Test.YtopaapgbenpbaaaDoorScal
import Derived.Test.YtopaapgbenpbaaaDoorStruct
namespace Go.Proofs.YtopaapgbenpbaaaDoor
open Go.RowKit
set_option linter.unusedVariables false

end Go.Proofs.YtopaapgbenpbaaaDoor
