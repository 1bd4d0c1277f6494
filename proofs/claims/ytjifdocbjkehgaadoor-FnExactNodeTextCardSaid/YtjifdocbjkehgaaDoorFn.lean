/-
  slices.ContainsFunc at the program's three closures, and what rests on it: EpochOver, Ahead, FrontLeq, SameFront; the law's counting down. Conditions: the length fits an int.
-/
import Derived.Test.YtjifdocbjkehgaaDoorRead
import Derived.Test.YtjifdocbjkehgaaDoorEq
import Derived.Test.YtjifdocbjkehgaaDoorBelowP
namespace Go.Proofs.YtjifdocbjkehgaaDoor
open Go.RowKit
set_option linter.unusedVariables false

theorem idx_lt {α : Type} {P : α → Bool} {xs : List α} {n : Nat} (hn : xs.length = n) (h : xs.any P = true) : xs.findIdx P < n := by
  rw [← hn]; exact List.findIdx_lt_length.2 (by simpa using h)

end Go.Proofs.YtjifdocbjkehgaaDoor
