/-
  Hex of the program and of the reference. Conditions: none.
-/
import Derived.Test.YtopaapgbenpbaaaDoorBytes
import Derived.Test.YtopaapgbenpbaaaDoorPlt
namespace Go.Proofs.YtopaapgbenpbaaaDoor
open Go.RowKit
set_option linter.unusedVariables false

def hexL (l : List UInt8) : List UInt8 := l.flatMap fun b => [fig (b.toNat / 16), fig (b.toNat % 16)]
theorem hexL_len (l : List UInt8) : (hexL l).length = 2 * l.length := by
  induction l with
  | nil => rfl
  | cons b l ih => simp only [hexL, List.flatMap_cons, List.length_append, List.length_cons, List.length_nil] at *; omega
theorem hexL_step {l acc : List UInt8} {k : Nat} {x : UInt8} (h : hexL (l.take k) = acc) (hx : l[k]? = some x) : hexL (l.take (k + 1)) = acc ++ [fig (x.toNat / 16), fig (x.toNat % 16)] := by
  unfold hexL at h ⊢
  rw [List.take_add_one, hx, List.flatMap_append, h]
  simp
def hexV (s : ByteArray) : Value := if s.size ≤ 20000 then .tuple #[.string ⟨(hexL s.data.toList).toArray⟩, .bool true] else .tuple #[.string ⟨#[]⟩, .bool false]
theorem wrap8 (n : Nat) (h : n < 256) : IntKind.u8.wrap (n : Int) = n := by
  have h1 : ((n : Int) % 256) = n := by omega
  unfold IntKind.wrap
  simp [IntKind.bits, IntKind.signed, h1]
theorem wrapQuo {x : UInt8} {q : Nat} (h : x.toNat / 16 = q) : IntKind.u8.wrap ((x.toNat : Int) / 16) = (q : Int) := by
  have := UInt8.toNat_lt x
  subst h
  rw [show ((x.toNat : Int) / 16) = ((x.toNat / 16 : Nat) : Int) from rfl, wrap8 _ (by omega)]
theorem tmodRem {x : UInt8} {q : Nat} (h : x.toNat % 16 = q) : (x.toNat : Int).tmod 16 = (q : Int) := by
  subst h; rfl
theorem hexV_form (s : ByteArray) : ∃ B z, hexV s = .tuple #[.string B, .bool z] := by
  unfold hexV
  split
  · exact ⟨_, _, rfl⟩
  · exact ⟨_, _, rfl⟩
end Go.Proofs.YtopaapgbenpbaaaDoor
