/-
  No cell of these rows narrows 'for every input' (looked for: loops, veiled, ifaces, maps, wideKeys, modest, calm, conditions, laid).
  DERIVED. THE GIVEN ROWS OF THIS SEAT. 4 by the template 'for every input the law returns true; each argument reads behind the call as it read before'; 0 by the template 'total and deterministic' (their statements: YtaplonjknjombaaTotals.lean).
  GIVEN WITH THE SEED: the statements are not yours to turn. If you find one false, say at which input.
  Laid BY PROGRAM, IN A SANDBOX (cutbox-rows.mjs): the forced cells as the released guide's own fill.sh prints them over the translation 8fcdcd809bd3d66f… (all of the seat's roots in one cut). By AI agents, Wed Nov 11 2026. No macro, syntax, notation, axiom, sorry.
-/
import Derived.Test.YtaplonjknjombaaChecked
import GoSem.Claim
import GoSem.ClaimJoined
import GoSem.ClaimMapViews
import Derived.JoinedTies
import Derived.KernelRfl
namespace Go.Proofs.Ytaplonjknjombaa
/- THE CELL 'sum', in the pinned program and in every row, IS THE sha256 OF THE DUMP (.gsa) THAT YtaplonjknjombaaProg.lean LOADS. Nothing in Lean hashes anything: it is a label: what it is worth is what the hold of that sum in a sandbox is worth. -/
noncomputable def Try.pinned : Pinned := { name := "ytaplonjknjombaa", sum := "8fcdcd809bd3d66fa641292f43b9039c18b7e0b6c34d572fbf2dcf43aedacb3d", checked := Try.checked }
namespace Rows
def none {H : Type} : Left H := { results := [], args := [] }

/-- 'laws.FnExactMinimal': WHATEVER THE INPUT: true; the input reads as it did. -/
def fnExactMinimalSpec : ChangeSpec := { name := "fnExactMinimal", fn := fun _ => fun
  | [d] => { results := [.lit (.bool true)], args := [d] }
  | _ => none }
def fnExactMinimalRow : OpenClaim := { program := "ytaplonjknjombaa", sum := "8fcdcd809bd3d66fa641292f43b9039c18b7e0b6c34d572fbf2dcf43aedacb3d", func := "loop.example/g00973/laws.FnExactMinimal", spec := "fnExactMinimal", unfollowed := true, recurses := true, apart := false }
def FnExactMinimalSaid : Prop := fnExactMinimalRow.holds Try.pinned (OpenSpec.ofChange fnExactMinimalSpec)

/-- ITS FALSE NEIGHBOUR: 'it returns false'. Refute it at one input. -/
def fnExactMinimalWrong : ChangeSpec := { name := "fnExactMinimal", fn := fun _ => fun
  | [d] => { results := [.lit (.bool false)], args := [d] }
  | _ => none }
def FnExactMinimalWrongFalsely : Prop := fnExactMinimalRow.holds Try.pinned (OpenSpec.ofChange fnExactMinimalWrong)

/-- 'laws.FnExactMergeFronts': WHATEVER THE INPUT: true; the input reads as it did. -/
def fnExactMergeFrontsSpec : ChangeSpec := { name := "fnExactMergeFronts", fn := fun _ => fun
  | [d1, d2] => { results := [.lit (.bool true)], args := [d1, d2] }
  | _ => none }
def fnExactMergeFrontsRow : OpenClaim := { program := "ytaplonjknjombaa", sum := "8fcdcd809bd3d66fa641292f43b9039c18b7e0b6c34d572fbf2dcf43aedacb3d", func := "loop.example/g00973/laws.FnExactMergeFronts", spec := "fnExactMergeFronts", unfollowed := true, recurses := true, apart := false }
def FnExactMergeFrontsSaid : Prop := fnExactMergeFrontsRow.holds Try.pinned (OpenSpec.ofChange fnExactMergeFrontsSpec)

/-- ITS FALSE NEIGHBOUR: 'it returns false'. Refute it at one input. -/
def fnExactMergeFrontsWrong : ChangeSpec := { name := "fnExactMergeFronts", fn := fun _ => fun
  | [d1, d2] => { results := [.lit (.bool false)], args := [d1, d2] }
  | _ => none }
def FnExactMergeFrontsWrongFalsely : Prop := fnExactMergeFrontsRow.holds Try.pinned (OpenSpec.ofChange fnExactMergeFrontsWrong)

/-- 'laws.FnExactFrontierOk': WHATEVER THE INPUT: true; the input reads as it did. -/
def fnExactFrontierOkSpec : ChangeSpec := { name := "fnExactFrontierOk", fn := fun _ => fun
  | [d] => { results := [.lit (.bool true)], args := [d] }
  | _ => none }
def fnExactFrontierOkRow : OpenClaim := { program := "ytaplonjknjombaa", sum := "8fcdcd809bd3d66fa641292f43b9039c18b7e0b6c34d572fbf2dcf43aedacb3d", func := "loop.example/g00973/laws.FnExactFrontierOk", spec := "fnExactFrontierOk", unfollowed := true, recurses := true, apart := false }
def FnExactFrontierOkSaid : Prop := fnExactFrontierOkRow.holds Try.pinned (OpenSpec.ofChange fnExactFrontierOkSpec)

/-- ITS FALSE NEIGHBOUR: 'it returns false'. Refute it at one input. -/
def fnExactFrontierOkWrong : ChangeSpec := { name := "fnExactFrontierOk", fn := fun _ => fun
  | [d] => { results := [.lit (.bool false)], args := [d] }
  | _ => none }
def FnExactFrontierOkWrongFalsely : Prop := fnExactFrontierOkRow.holds Try.pinned (OpenSpec.ofChange fnExactFrontierOkWrong)

/-- 'laws.FnExactFrontOf': WHATEVER THE INPUT: true; the input reads as it did. -/
def fnExactFrontOfSpec : ChangeSpec := { name := "fnExactFrontOf", fn := fun _ => fun
  | [d] => { results := [.lit (.bool true)], args := [d] }
  | _ => none }
def fnExactFrontOfRow : OpenClaim := { program := "ytaplonjknjombaa", sum := "8fcdcd809bd3d66fa641292f43b9039c18b7e0b6c34d572fbf2dcf43aedacb3d", func := "loop.example/g00973/laws.FnExactFrontOf", spec := "fnExactFrontOf", unfollowed := true, recurses := true, apart := false }
def FnExactFrontOfSaid : Prop := fnExactFrontOfRow.holds Try.pinned (OpenSpec.ofChange fnExactFrontOfSpec)

/-- ITS FALSE NEIGHBOUR: 'it returns false'. Refute it at one input. -/
def fnExactFrontOfWrong : ChangeSpec := { name := "fnExactFrontOf", fn := fun _ => fun
  | [d] => { results := [.lit (.bool false)], args := [d] }
  | _ => none }
def FnExactFrontOfWrongFalsely : Prop := fnExactFrontOfRow.holds Try.pinned (OpenSpec.ofChange fnExactFrontOfWrong)

/- THE SECOND FORM. 'bulk': how many values and letters a reading holds, each counted each time it is reached (what is shared counts as often as it is met; a slice's spare places count too). A statement '..UptoSaid' is the law's where the arguments, and the package variables that the reading takes, are together of bulk at most 1048576: NARROWER than '..Said'. Prove '..Said' where nothing that the law and all that it calls make is longer than what came in: it says more and counts as full. Else prove '..UptoSaid'. A law counts once. -/
mutual
def uptoBulk {H : Type} : DataW H → Nat
  | .lit (.string bytes) => bytes.length + 1
  | .lit _ => 1
  | .nil => 1
  | .ptr d => uptoBulk d + 1
  | .slice elems spare => uptoBulkAll elems + uptoBulkAll spare + 1
  | .agg parts => uptoBulkAll parts + 1
  | .iface _ d => uptoBulk d + 1
  | .map entries => uptoBulkEntries entries + 1
  | .held _ => 1
def uptoBulkAll {H : Type} : List (DataW H) → Nat
  | [] => 0
  | d :: r => uptoBulk d + uptoBulkAll r
def uptoBulkEntries {H : Type} : List (Lit × DataW H) → Nat
  | [] => 0
  | x :: r => uptoBulkEntry x + uptoBulkEntries r
def uptoBulkEntry {H : Type} : Lit × DataW H → Nat
  | (.string bytes, d) => bytes.length + uptoBulk d + 1
  | (_, d) => uptoBulk d + 1
 end
def uptoSmall : (H : Type) → List (DataW H) → Bool := fun _ ds => decide (uptoBulkAll ds ≤ 1048576)
def OpenSpec.upto (s : _root_.Go.ChangeSpec) : _root_.Go.OpenSpec := { _root_.Go.OpenSpec.ofChange s with cond := some uptoSmall }

/-- 'laws.FnExactMinimal', WHERE WHAT IT READS IS OF BULK AT MOST 1048576: true; the input reads as it did. -/
def fnExactMinimalUptoRow : OpenClaim := { program := "ytaplonjknjombaa", sum := "8fcdcd809bd3d66fa641292f43b9039c18b7e0b6c34d572fbf2dcf43aedacb3d", func := "loop.example/g00973/laws.FnExactMinimal", spec := "fnExactMinimal", unfollowed := true, recurses := true, apart := false, narrowed := true }
def FnExactMinimalUptoSaid : Prop := fnExactMinimalUptoRow.holds Try.pinned (OpenSpec.upto fnExactMinimalSpec)

/-- 'laws.FnExactMergeFronts', WHERE WHAT IT READS IS OF BULK AT MOST 1048576: true; the input reads as it did. -/
def fnExactMergeFrontsUptoRow : OpenClaim := { program := "ytaplonjknjombaa", sum := "8fcdcd809bd3d66fa641292f43b9039c18b7e0b6c34d572fbf2dcf43aedacb3d", func := "loop.example/g00973/laws.FnExactMergeFronts", spec := "fnExactMergeFronts", unfollowed := true, recurses := true, apart := false, narrowed := true }
def FnExactMergeFrontsUptoSaid : Prop := fnExactMergeFrontsUptoRow.holds Try.pinned (OpenSpec.upto fnExactMergeFrontsSpec)

/-- 'laws.FnExactFrontierOk', WHERE WHAT IT READS IS OF BULK AT MOST 1048576: true; the input reads as it did. -/
def fnExactFrontierOkUptoRow : OpenClaim := { program := "ytaplonjknjombaa", sum := "8fcdcd809bd3d66fa641292f43b9039c18b7e0b6c34d572fbf2dcf43aedacb3d", func := "loop.example/g00973/laws.FnExactFrontierOk", spec := "fnExactFrontierOk", unfollowed := true, recurses := true, apart := false, narrowed := true }
def FnExactFrontierOkUptoSaid : Prop := fnExactFrontierOkUptoRow.holds Try.pinned (OpenSpec.upto fnExactFrontierOkSpec)

/-- 'laws.FnExactFrontOf', WHERE WHAT IT READS IS OF BULK AT MOST 1048576: true; the input reads as it did. -/
def fnExactFrontOfUptoRow : OpenClaim := { program := "ytaplonjknjombaa", sum := "8fcdcd809bd3d66fa641292f43b9039c18b7e0b6c34d572fbf2dcf43aedacb3d", func := "loop.example/g00973/laws.FnExactFrontOf", spec := "fnExactFrontOf", unfollowed := true, recurses := true, apart := false, narrowed := true }
def FnExactFrontOfUptoSaid : Prop := fnExactFrontOfUptoRow.holds Try.pinned (OpenSpec.upto fnExactFrontOfSpec)

end Rows
end Go.Proofs.Ytaplonjknjombaa
