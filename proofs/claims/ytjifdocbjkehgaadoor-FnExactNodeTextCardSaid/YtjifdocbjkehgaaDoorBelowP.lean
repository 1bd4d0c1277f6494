/-
  A stamp below another one, as a plain test. Conditions: none.
-/
import Derived.Test.YtjifdocbjkehgaaDoorScal
namespace Go.Proofs.YtjifdocbjkehgaaDoor
/-- x lies below s and is not s -/
def belowP (a b : Int) (x : Int × Int) : Bool := !decide (x.1 = a ∧ x.2 = b) && leqB x.1 x.2 a b
end Go.Proofs.YtjifdocbjkehgaaDoor
