/-
  What the reference draws: lists of records, and records by name. Conditions: the bytes' number is at most 2^32.
-/
import Derived.Test.YtcmhmdccfihhiaaDrawR
import Derived.Test.YtcmhmdccfihhiaaDrawL2
namespace Go.Proofs.Ytcmhmdccfihhiaa
open Go.RowKit
set_option linter.unusedVariables false
theorem own_rowD {α : Type} {enc : α → List Value} {k : Nat} {w : World} {E : TypeId} {base n c : Nat} {A : Option Addr} {xs : List α} (hk : ∀ x, (enc x).length = k) (h : w.ownsRow base E k (.slice A n c) n (xs.flatMap enc)) (hn : xs.length = n) : Row enc k w A xs := by
  obtain ⟨A', c', he, ho, _⟩ := own_of_ownsRow hk h hn
  simp only [Value.slice.injEq] at he
  obtain ⟨rfl, _, _⟩ := he
  exact ho.row
theorem infoRcL : (Try.prog.info? 33).map (fun i => (i.zero, i.size, i.bytes)) = some (some (.agg #[.int .i64 0, .int .i64 0, .int .i64 0, .int .i64 0, .int .i64 0]), 5, 40) := by kernel_rfl
end Go.Proofs.Ytcmhmdccfihhiaa
