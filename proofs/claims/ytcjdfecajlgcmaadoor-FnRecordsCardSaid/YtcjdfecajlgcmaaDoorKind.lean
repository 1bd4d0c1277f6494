/-
  KindName, in the program and in the reference. Conditions: none.
-/
import Derived.Test.YtcjdfecajlgcmaaDoorScal
namespace Go.Proofs.YtcjdfecajlgcmaaDoor
open Go.RowKit
set_option linter.unusedVariables false

def kindName (k : Int) : ByteArray :=
  if k = 1 then ⟨#[105, 110]⟩ else if k = 2 then ⟨#[97, 100, 100]⟩ else if k = 3 then ⟨#[107, 101, 101, 112]⟩ else if k = 4 then ⟨#[109, 111, 118, 101]⟩
  else if k = 5 then ⟨#[109, 105, 110]⟩ else if k = 6 then ⟨#[110, 101, 119]⟩ else if k = 7 then ⟨#[98, 97, 99, 107]⟩ else if k = 8 then ⟨#[111, 117, 116]⟩ else ⟨#[63]⟩
end Go.Proofs.YtcjdfecajlgcmaaDoor
