/-
  The law's marking of a slice's cells with ascending numbers, and its asking for them. Conditions: the length is at most 2^40.
-/
import Derived.Test.YtopaapgbenpbaaaDoorOwn
namespace Go.Proofs.YtopaapgbenpbaaaDoor
open Go.RowKit
set_option linter.unusedVariables false

theorem Mrk.done {k0 : Int} {t : Nat} {A : Option Addr} {row : Option Nat} {w wr : World} (h : Mrk k0 t t A row w wr) : w.grownBy wr row ∧ Row (encM k0) 1 wr A (List.range t) := ⟨h.1, h.2.1⟩
theorem mark_ret {a b : Int} (h : a = b) : Ending.returned (.int .i64 a) = .returned (.int .i64 b) := by rw [h]
theorem mark_cell {k0 : Int} {w : World} {A : Option Addr} {t m : Nat} (h : Row (encM k0) 1 w A (List.range t)) (hm : m < t) : ∃ b off, A = some ⟨b, off, Option.none⟩ ∧ ∀ i, i < t → w.cell? ⟨b, off + i, Option.none⟩ = some (.int .i64 (k0 + i)) := by
  obtain ⟨b, off, e, hc⟩ := h (by simp; omega)
  refine ⟨b, off, e, fun i hi => ?_⟩
  have := hc i i (List.getElem?_range hi) 0 (.int .i64 (k0 + i)) (by simp [encM])
  simpa using this

end Go.Proofs.YtopaapgbenpbaaaDoor
