/-
  What the reference draws by name: lists of stamps. Conditions: the bytes' number is at most 2^32.
-/
import Derived.Test.YtcmhmdccfihhiaaDrawL
namespace Go.Proofs.Ytcmhmdccfihhiaa
open Go.RowKit
set_option linter.unusedVariables false
theorem row_set2 {α : Type} {enc : α → List Value} {k n : Nat} {w : World} {A : Option Addr} {xs : List α} {a : Addr} (h : Row enc k w A xs) (hn : xs.length = n) (hne : some a.block ≠ ob A n) (v : Value) : Row enc k (w.setCell a v) A xs :=
  h.grown (w' := w.setCell a v) (row := some a.block) ⟨rfl, rfl, rfl, by simp [World.setCell], fun j hj hne => Below.heap_setCell _ _ _ _ (fun e => hne (by rw [e]))⟩ (fun b hb e => hne (by rw [← e, hb, hn]))
/-- two lists of stamps -/
def TwoLists (w : World) (e : Ending) (w' : World) : Prop := ∃ (A : Option Addr) (n c : Nat) (xs : List (Int × Int)) (B : Option Addr) (m d : Nat) (ys : List (Int × Int)), e = .returned (.tuple #[.slice A n c, .slice B m d]) ∧ xs.length = n ∧ ys.length = m ∧ n ≤ 5 ∧ m ≤ 5 ∧ Row encS 2 w' A xs ∧ Row encS 2 w' B ys ∧ ∃ p : Later, w' = later w p
end Go.Proofs.Ytcmhmdccfihhiaa
