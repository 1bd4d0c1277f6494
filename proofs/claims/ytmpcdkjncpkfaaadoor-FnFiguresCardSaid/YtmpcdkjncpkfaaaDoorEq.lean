/-
  Comparing slices element by element: the law's eq functions, the reference's, slices.Equal. Conditions: the lengths fit an int.
-/
import Derived.Test.YtmpcdkjncpkfaaaDoorSl
import Derived.Test.YtmpcdkjncpkfaaaDoorScal
import Derived.Test.YtmpcdkjncpkfaaaDoorStruct
namespace Go.Proofs.YtmpcdkjncpkfaaaDoor
open Go.RowKit
set_option linter.unusedVariables false

end Go.Proofs.YtmpcdkjncpkfaaaDoor
