/-
  What DrawOwnerOf and DrawPlaces of the reference draw. Conditions: the bytes' number is at most 2^32.
-/
import Derived.Test.YtcjdfecajlgcmaaDoorDraw
namespace Go.Proofs.YtcjdfecajlgcmaaDoor
open Go.RowKit
set_option linter.unusedVariables false

theorem below_drawn {B g : Nat} {a w1 w2 : World} (h : Below B a w1) (hg : w1.grownBy w2 (some g)) (hB : B ≤ g) (hs : B ≤ w1.heap.size) : Below B a w2 :=
  h.grown hg hs fun j hj => by
    cases hj
    exact hB
theorem ne_new {g b m : Nat} (h : g < b) : some g ≠ ob (some ⟨b, 0, Option.none⟩) m := fun e => by
  unfold ob at e
  split at e
  · cases e
  · simp at e
    omega
end Go.Proofs.YtcjdfecajlgcmaaDoor
