/-
  No cell of these rows narrows 'for every input' (looked for: loops, veiled, ifaces, maps, wideKeys, modest, calm, conditions, laid).
  DERIVED. THE GIVEN ROWS OF THIS SEAT. 5 by the template 'for every input the law returns true; each argument reads behind the call as it read before'; 0 by the template 'total and deterministic' (their statements: YtljdinbpmakliaaTotals.lean).
  GIVEN WITH THE SEED: the statements are not yours to turn. If you find one false, say at which input.
  Laid BY PROGRAM, IN A SANDBOX (cutbox-rows.mjs): the forced cells as the released guide's own fill.sh prints them over the translation 8521e6cbff454ed3… (all of the seat's roots in one cut). By AI agents, Wed Nov 11 2026. No macro, syntax, notation, axiom, sorry.
-/
import Derived.Test.YtljdinbpmakliaaChecked
import GoSem.Claim
import GoSem.ClaimJoined
import GoSem.ClaimMapViews
import Derived.JoinedTies
import Derived.KernelRfl
namespace Go.Proofs.Ytljdinbpmakliaa
/- THE CELL 'sum', in the pinned program and in every row, IS THE sha256 OF THE DUMP (.gsa) THAT YtljdinbpmakliaaProg.lean LOADS. Nothing in Lean hashes anything: it is a label: what it is worth is what the hold of that sum in a sandbox is worth. -/
noncomputable def Try.pinned : Pinned := { name := "ytljdinbpmakliaa", sum := "8521e6cbff454ed3d64e7559a6b1c26e207fb2ca57b8015896b11c52c090e8bf", checked := Try.checked }
namespace Rows
def none {H : Type} : Left H := { results := [], args := [] }

/-- 'laws.FnExactOfEpoch': WHATEVER THE INPUT: true; the input reads as it did. -/
def fnExactOfEpochSpec : ChangeSpec := { name := "fnExactOfEpoch", fn := fun _ => fun
  | [d1, d2] => { results := [.lit (.bool true)], args := [d1, d2] }
  | _ => none }
def fnExactOfEpochRow : OpenClaim := { program := "ytljdinbpmakliaa", sum := "8521e6cbff454ed3d64e7559a6b1c26e207fb2ca57b8015896b11c52c090e8bf", func := "loop.example/g00973/laws.FnExactOfEpoch", spec := "fnExactOfEpoch", apart := false }
def FnExactOfEpochSaid : Prop := fnExactOfEpochRow.holds Try.pinned (OpenSpec.ofChange fnExactOfEpochSpec)

/-- ITS FALSE NEIGHBOUR: 'it returns false'. Refute it at one input. -/
def fnExactOfEpochWrong : ChangeSpec := { name := "fnExactOfEpoch", fn := fun _ => fun
  | [d1, d2] => { results := [.lit (.bool false)], args := [d1, d2] }
  | _ => none }
def FnExactOfEpochWrongFalsely : Prop := fnExactOfEpochRow.holds Try.pinned (OpenSpec.ofChange fnExactOfEpochWrong)

/-- 'laws.FnExactInFlight': WHATEVER THE INPUT: true; the input reads as it did. -/
def fnExactInFlightSpec : ChangeSpec := { name := "fnExactInFlight", fn := fun _ => fun
  | [d1, d2] => { results := [.lit (.bool true)], args := [d1, d2] }
  | _ => none }
def fnExactInFlightRow : OpenClaim := { program := "ytljdinbpmakliaa", sum := "8521e6cbff454ed3d64e7559a6b1c26e207fb2ca57b8015896b11c52c090e8bf", func := "loop.example/g00973/laws.FnExactInFlight", spec := "fnExactInFlight", apart := false }
def FnExactInFlightSaid : Prop := fnExactInFlightRow.holds Try.pinned (OpenSpec.ofChange fnExactInFlightSpec)

/-- ITS FALSE NEIGHBOUR: 'it returns false'. Refute it at one input. -/
def fnExactInFlightWrong : ChangeSpec := { name := "fnExactInFlight", fn := fun _ => fun
  | [d1, d2] => { results := [.lit (.bool false)], args := [d1, d2] }
  | _ => none }
def FnExactInFlightWrongFalsely : Prop := fnExactInFlightRow.holds Try.pinned (OpenSpec.ofChange fnExactInFlightWrong)

/-- 'laws.FnExactCreditBack': WHATEVER THE INPUT: true; the input reads as it did. -/
def fnExactCreditBackSpec : ChangeSpec := { name := "fnExactCreditBack", fn := fun _ => fun
  | [d] => { results := [.lit (.bool true)], args := [d] }
  | _ => none }
def fnExactCreditBackRow : OpenClaim := { program := "ytljdinbpmakliaa", sum := "8521e6cbff454ed3d64e7559a6b1c26e207fb2ca57b8015896b11c52c090e8bf", func := "loop.example/g00973/laws.FnExactCreditBack", spec := "fnExactCreditBack", apart := false }
def FnExactCreditBackSaid : Prop := fnExactCreditBackRow.holds Try.pinned (OpenSpec.ofChange fnExactCreditBackSpec)

/-- ITS FALSE NEIGHBOUR: 'it returns false'. Refute it at one input. -/
def fnExactCreditBackWrong : ChangeSpec := { name := "fnExactCreditBack", fn := fun _ => fun
  | [d] => { results := [.lit (.bool false)], args := [d] }
  | _ => none }
def FnExactCreditBackWrongFalsely : Prop := fnExactCreditBackRow.holds Try.pinned (OpenSpec.ofChange fnExactCreditBackWrong)

/-- 'laws.FnExactSendOn': WHATEVER THE INPUT: true; the input reads as it did. -/
def fnExactSendOnSpec : ChangeSpec := { name := "fnExactSendOn", fn := fun _ => fun
  | [d1, d2] => { results := [.lit (.bool true)], args := [d1, d2] }
  | _ => none }
def fnExactSendOnRow : OpenClaim := { program := "ytljdinbpmakliaa", sum := "8521e6cbff454ed3d64e7559a6b1c26e207fb2ca57b8015896b11c52c090e8bf", func := "loop.example/g00973/laws.FnExactSendOn", spec := "fnExactSendOn", apart := false }
def FnExactSendOnSaid : Prop := fnExactSendOnRow.holds Try.pinned (OpenSpec.ofChange fnExactSendOnSpec)

/-- ITS FALSE NEIGHBOUR: 'it returns false'. Refute it at one input. -/
def fnExactSendOnWrong : ChangeSpec := { name := "fnExactSendOn", fn := fun _ => fun
  | [d1, d2] => { results := [.lit (.bool false)], args := [d1, d2] }
  | _ => none }
def FnExactSendOnWrongFalsely : Prop := fnExactSendOnRow.holds Try.pinned (OpenSpec.ofChange fnExactSendOnWrong)

/-- 'laws.FnExactTakeFrom': WHATEVER THE INPUT: true; the input reads as it did. -/
def fnExactTakeFromSpec : ChangeSpec := { name := "fnExactTakeFrom", fn := fun _ => fun
  | [d] => { results := [.lit (.bool true)], args := [d] }
  | _ => none }
def fnExactTakeFromRow : OpenClaim := { program := "ytljdinbpmakliaa", sum := "8521e6cbff454ed3d64e7559a6b1c26e207fb2ca57b8015896b11c52c090e8bf", func := "loop.example/g00973/laws.FnExactTakeFrom", spec := "fnExactTakeFrom", apart := false }
def FnExactTakeFromSaid : Prop := fnExactTakeFromRow.holds Try.pinned (OpenSpec.ofChange fnExactTakeFromSpec)

/-- ITS FALSE NEIGHBOUR: 'it returns false'. Refute it at one input. -/
def fnExactTakeFromWrong : ChangeSpec := { name := "fnExactTakeFrom", fn := fun _ => fun
  | [d] => { results := [.lit (.bool false)], args := [d] }
  | _ => none }
def FnExactTakeFromWrongFalsely : Prop := fnExactTakeFromRow.holds Try.pinned (OpenSpec.ofChange fnExactTakeFromWrong)

/- THE SECOND FORM. 'bulk': how many values and letters a reading holds, each counted each time it is reached (what is shared counts as often as it is met; a slice's spare places count too). A statement '..UptoSaid' is the law's where the arguments, and the package variables that the reading takes, are together of bulk at most 1048576: NARROWER than '..Said'. Prove '..Said' where nothing that the law and all that it calls make is longer than what came in: it says more and counts as full. Else prove '..UptoSaid'. A law counts once. -/
mutual
def uptoBulk {H : Type} : DataW H → Nat
  | .lit (.string bytes) => bytes.length + 1
  | .lit _ => 1
  | .nil => 1
  | .ptr d => uptoBulk d + 1
  | .slice elems spare => uptoBulkAll elems + uptoBulkAll spare + 1
  | .agg parts => uptoBulkAll parts + 1
  | .iface _ d => uptoBulk d + 1
  | .map entries => uptoBulkEntries entries + 1
  | .held _ => 1
def uptoBulkAll {H : Type} : List (DataW H) → Nat
  | [] => 0
  | d :: r => uptoBulk d + uptoBulkAll r
def uptoBulkEntries {H : Type} : List (Lit × DataW H) → Nat
  | [] => 0
  | x :: r => uptoBulkEntry x + uptoBulkEntries r
def uptoBulkEntry {H : Type} : Lit × DataW H → Nat
  | (.string bytes, d) => bytes.length + uptoBulk d + 1
  | (_, d) => uptoBulk d + 1
 end
def uptoSmall : (H : Type) → List (DataW H) → Bool := fun _ ds => decide (uptoBulkAll ds ≤ 1048576)
def OpenSpec.upto (s : _root_.Go.ChangeSpec) : _root_.Go.OpenSpec := { _root_.Go.OpenSpec.ofChange s with cond := some uptoSmall }

/-- 'laws.FnExactOfEpoch', WHERE WHAT IT READS IS OF BULK AT MOST 1048576: true; the input reads as it did. -/
def fnExactOfEpochUptoRow : OpenClaim := { program := "ytljdinbpmakliaa", sum := "8521e6cbff454ed3d64e7559a6b1c26e207fb2ca57b8015896b11c52c090e8bf", func := "loop.example/g00973/laws.FnExactOfEpoch", spec := "fnExactOfEpoch", apart := false, narrowed := true }
def FnExactOfEpochUptoSaid : Prop := fnExactOfEpochUptoRow.holds Try.pinned (OpenSpec.upto fnExactOfEpochSpec)

/-- 'laws.FnExactInFlight', WHERE WHAT IT READS IS OF BULK AT MOST 1048576: true; the input reads as it did. -/
def fnExactInFlightUptoRow : OpenClaim := { program := "ytljdinbpmakliaa", sum := "8521e6cbff454ed3d64e7559a6b1c26e207fb2ca57b8015896b11c52c090e8bf", func := "loop.example/g00973/laws.FnExactInFlight", spec := "fnExactInFlight", apart := false, narrowed := true }
def FnExactInFlightUptoSaid : Prop := fnExactInFlightUptoRow.holds Try.pinned (OpenSpec.upto fnExactInFlightSpec)

/-- 'laws.FnExactCreditBack', WHERE WHAT IT READS IS OF BULK AT MOST 1048576: true; the input reads as it did. -/
def fnExactCreditBackUptoRow : OpenClaim := { program := "ytljdinbpmakliaa", sum := "8521e6cbff454ed3d64e7559a6b1c26e207fb2ca57b8015896b11c52c090e8bf", func := "loop.example/g00973/laws.FnExactCreditBack", spec := "fnExactCreditBack", apart := false, narrowed := true }
def FnExactCreditBackUptoSaid : Prop := fnExactCreditBackUptoRow.holds Try.pinned (OpenSpec.upto fnExactCreditBackSpec)

/-- 'laws.FnExactSendOn', WHERE WHAT IT READS IS OF BULK AT MOST 1048576: true; the input reads as it did. -/
def fnExactSendOnUptoRow : OpenClaim := { program := "ytljdinbpmakliaa", sum := "8521e6cbff454ed3d64e7559a6b1c26e207fb2ca57b8015896b11c52c090e8bf", func := "loop.example/g00973/laws.FnExactSendOn", spec := "fnExactSendOn", apart := false, narrowed := true }
def FnExactSendOnUptoSaid : Prop := fnExactSendOnUptoRow.holds Try.pinned (OpenSpec.upto fnExactSendOnSpec)

/-- 'laws.FnExactTakeFrom', WHERE WHAT IT READS IS OF BULK AT MOST 1048576: true; the input reads as it did. -/
def fnExactTakeFromUptoRow : OpenClaim := { program := "ytljdinbpmakliaa", sum := "8521e6cbff454ed3d64e7559a6b1c26e207fb2ca57b8015896b11c52c090e8bf", func := "loop.example/g00973/laws.FnExactTakeFrom", spec := "fnExactTakeFrom", apart := false, narrowed := true }
def FnExactTakeFromUptoSaid : Prop := fnExactTakeFromUptoRow.holds Try.pinned (OpenSpec.upto fnExactTakeFromSpec)

end Rows
end Go.Proofs.Ytljdinbpmakliaa
