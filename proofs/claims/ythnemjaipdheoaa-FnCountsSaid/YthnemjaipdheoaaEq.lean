/-
  Comparing slices element by element: the law's eq functions, the reference's, slices.Equal. Conditions: the lengths fit an int.
-/
import Derived.Test.YthnemjaipdheoaaSl
import Derived.Test.YthnemjaipdheoaaScal
import Derived.Test.YthnemjaipdheoaaStruct
namespace Go.Proofs.Ythnemjaipdheoaa
open Go.RowKit
set_option linter.unusedVariables false

end Go.Proofs.Ythnemjaipdheoaa
