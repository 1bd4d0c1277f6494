/-
  What the reference draws: lists of stamps. Conditions: the bytes' number is at most 2^32.
-/
import Derived.Test.YtcmhmdccfihhiaaDrawT
import Derived.Test.YtcmhmdccfihhiaaDrawO
namespace Go.Proofs.Ytcmhmdccfihhiaa
open Go.RowKit
set_option linter.unusedVariables false
theorem grown_over {w W W' : World} {r row : Option Nat} (h : w.grownBy W r) (hg : W.grownBy W' row) (hrow : ∀ b, row = some b → w.heap.size ≤ b) : w.grownBy W' r :=
  ⟨hg.os.trans h.os, hg.tape.trans h.tape, hg.output.trans h.output, Nat.le_trans h.size hg.size, fun i hi hne => (hg.block i (Nat.lt_of_lt_of_le hi h.size) (fun e => by have := hrow i e.symm; omega)).trans (h.block i hi hne)⟩
/-- a cursor stands where a slice above it is written -/
theorem cur_over {g : Nat} {w w' : World} {v : Value} {base n : Nat} {E : TypeId} {k : Nat} {xs : List Value} (h : Cur g w) (hg : w.grownBy w' v.ownBlock) (ho : w.ownsRow base E k v n xs) (hb : g < base) : Cur g w' :=
  h.grown hg fun b e => Nat.lt_of_lt_of_le hb (ho.lt b e).1
/-- a list is drawn: a made slice, the cursor moved on -/
def DrawnL {α : Type} (enc : α → List Value) (k m : Nat) (ok : α → Prop) (g : Nat) (w : World) (e : Ending) (w' : World) : Prop :=
  ∃ (A : Option Addr) (n c : Nat) (xs : List α), e = .returned (.slice A n c) ∧ xs.length = n ∧ n ≤ m ∧ n ≤ c ∧ c ≤ maxLen ∧ (∀ x ∈ xs, ok x) ∧ Own enc k w.heap.size w' A xs ∧ Cur g w' ∧ w.grownBy w' (some g)
end Go.Proofs.Ytcmhmdccfihhiaa
