/-
  What the reference draws by name: two stamps. Conditions: none.
-/
import Derived.Test.YtcmhmdccfihhiaaDrawS
namespace Go.Proofs.Ytcmhmdccfihhiaa
open Go.RowKit
set_option linter.unusedVariables false
set_option maxRecDepth 20000

/-- two stamps are handed back; the old memory stands -/
def TwoS (w : World) (e : Ending) (w' : World) : Prop := ∃ a b c d : Int, e = .returned (.tuple #[.agg #[.int .i64 a, .int .i64 b], .agg #[.int .i64 c, .int .i64 d]]) ∧ I64 a ∧ I64 b ∧ I64 c ∧ I64 d ∧ ∃ p : Later, w' = later w p
end Go.Proofs.Ytcmhmdccfihhiaa
