/-
  Opening an argument that is a slice of bytes. Conditions: none.
-/
import Derived.Test.YtopaapgbenpbaaaDoorBytes
import Derived.Test.YtopaapgbenpbaaaDoorSl
namespace Go.Proofs.YtopaapgbenpbaaaDoor
open Go.ChangeShapes Go.WideShapes Go.ChangeAt Go.RowKit Go.Deep Go.Joins
set_option linter.unusedVariables false
section
variable {H : Type} {enc : TypeId × Value → H} {P : Program} {w : World} {base : Nat} {spare : Nat → Bool} {held : Bool}
theorem open_bytes {r : Reach} {b0 : Nat} {t e : TypeId} {v : Value} {d : DataW H} {p : List MemPlace} (ht : P.underlying t = some (.slice e)) (hs : P.underlying e = some (.int .u8)) (o : P.cellsOf e = 1) (hv : Value.okWide P w r b0 t v) (h : DataW.Trod enc P w base spare held t v d p) :
    ∃ (A : Option Addr) (n c : Nat) (xs : List UInt8), v = .slice A n c ∧ xs.length = n ∧ n ≤ c ∧ c ≤ maxLen ∧ Row encB 1 w A xs ∧ ∀ x ∈ xs, True :=
  open_row encB (fun _ => True) (by decide) ht o (fun hf => by
    obtain ⟨a, rfl, _, wa⟩ := DataW.trod_int hs hf
    simp [Lit.wf, IntKind.min, IntKind.max, IntKind.signed, IntKind.bits] at wa
    obtain ⟨k, rfl⟩ : ∃ k : Nat, a = k := ⟨a.toNat, by omega⟩
    refine ⟨UInt8.ofNat k, ?_, trivial⟩
    have : (UInt8.ofNat k).toNat = k := by simp; omega
    simp [encB, this]) hv h
end
end Go.Proofs.YtopaapgbenpbaaaDoor
