/-
  No cell of these rows narrows 'for every input' (looked for: loops, veiled, ifaces, maps, wideKeys, modest, calm, conditions, laid).
  DERIVED. THE GIVEN ROWS OF THIS SEAT. 12 by the template 'for every input the law returns true; each argument reads behind the call as it read before'; 0 by the template 'total and deterministic' (their statements: YtadiicaggdkboaaTotals.lean).
  GIVEN WITH THE SEED: the statements are not yours to turn. If you find one false, say at which input.
  Laid BY PROGRAM, IN A SANDBOX (cutbox-rows.mjs): the forced cells as the released guide's own fill.sh prints them over the translation 3115cbc88f0ff09d… (all of the seat's roots in one cut). By AI agents, Wed Nov 11 2026. No macro, syntax, notation, axiom, sorry.
-/
import Derived.Test.YtadiicaggdkboaaChecked
import GoSem.Claim
import GoSem.ClaimJoined
import GoSem.ClaimMapViews
import Derived.JoinedTies
import Derived.KernelRfl
namespace Go.Proofs.Ytadiicaggdkboaa
/- THE CELL 'sum', in the pinned program and in every row, IS THE sha256 OF THE DUMP (.gsa) THAT YtadiicaggdkboaaProg.lean LOADS. Nothing in Lean hashes anything: it is a label: what it is worth is what the hold of that sum in a sandbox is worth. -/
noncomputable def Try.pinned : Pinned := { name := "ytadiicaggdkboaa", sum := "3115cbc88f0ff09d309e8da18562853fbd8a5834f4487f3bc97c2cdfec74f3f0", checked := Try.checked }
namespace Rows
def none {H : Type} : Left H := { results := [], args := [] }

/-- 'laws.FnExactConstants': WHATEVER THE INPUT: true; the input reads as it did. -/
def fnExactConstantsSpec : ChangeSpec := { name := "fnExactConstants", fn := fun _ => fun
  | [] => { results := [.lit (.bool true)], args := [] }
  | _ => none }
def fnExactConstantsRow : OpenClaim := { program := "ytadiicaggdkboaa", sum := "3115cbc88f0ff09d309e8da18562853fbd8a5834f4487f3bc97c2cdfec74f3f0", func := "loop.example/g00973/laws.FnExactConstants", spec := "fnExactConstants", apart := false }
def FnExactConstantsSaid : Prop := fnExactConstantsRow.holds Try.pinned (OpenSpec.ofChange fnExactConstantsSpec)

/-- ITS FALSE NEIGHBOUR: 'it returns false'. Refute it at one input. -/
def fnExactConstantsWrong : ChangeSpec := { name := "fnExactConstants", fn := fun _ => fun
  | [] => { results := [.lit (.bool false)], args := [] }
  | _ => none }
def FnExactConstantsWrongFalsely : Prop := fnExactConstantsRow.holds Try.pinned (OpenSpec.ofChange fnExactConstantsWrong)

/-- 'laws.FnExactRemembers': WHATEVER THE INPUT: true; the input reads as it did. -/
def fnExactRemembersSpec : ChangeSpec := { name := "fnExactRemembers", fn := fun _ => fun
  | [d] => { results := [.lit (.bool true)], args := [d] }
  | _ => none }
def fnExactRemembersRow : OpenClaim := { program := "ytadiicaggdkboaa", sum := "3115cbc88f0ff09d309e8da18562853fbd8a5834f4487f3bc97c2cdfec74f3f0", func := "loop.example/g00973/laws.FnExactRemembers", spec := "fnExactRemembers", apart := false }
def FnExactRemembersSaid : Prop := fnExactRemembersRow.holds Try.pinned (OpenSpec.ofChange fnExactRemembersSpec)

/-- ITS FALSE NEIGHBOUR: 'it returns false'. Refute it at one input. -/
def fnExactRemembersWrong : ChangeSpec := { name := "fnExactRemembers", fn := fun _ => fun
  | [d] => { results := [.lit (.bool false)], args := [d] }
  | _ => none }
def FnExactRemembersWrongFalsely : Prop := fnExactRemembersRow.holds Try.pinned (OpenSpec.ofChange fnExactRemembersWrong)

/-- 'laws.FnExactStampLeq': WHATEVER THE INPUT: true; the input reads as it did. -/
def fnExactStampLeqSpec : ChangeSpec := { name := "fnExactStampLeq", fn := fun _ => fun
  | [d1, d2] => { results := [.lit (.bool true)], args := [d1, d2] }
  | _ => none }
def fnExactStampLeqRow : OpenClaim := { program := "ytadiicaggdkboaa", sum := "3115cbc88f0ff09d309e8da18562853fbd8a5834f4487f3bc97c2cdfec74f3f0", func := "loop.example/g00973/laws.FnExactStampLeq", spec := "fnExactStampLeq", apart := false }
def FnExactStampLeqSaid : Prop := fnExactStampLeqRow.holds Try.pinned (OpenSpec.ofChange fnExactStampLeqSpec)

/-- ITS FALSE NEIGHBOUR: 'it returns false'. Refute it at one input. -/
def fnExactStampLeqWrong : ChangeSpec := { name := "fnExactStampLeq", fn := fun _ => fun
  | [d1, d2] => { results := [.lit (.bool false)], args := [d1, d2] }
  | _ => none }
def FnExactStampLeqWrongFalsely : Prop := fnExactStampLeqRow.holds Try.pinned (OpenSpec.ofChange fnExactStampLeqWrong)

/-- 'laws.FnExactStampOk': WHATEVER THE INPUT: true; the input reads as it did. -/
def fnExactStampOkSpec : ChangeSpec := { name := "fnExactStampOk", fn := fun _ => fun
  | [d] => { results := [.lit (.bool true)], args := [d] }
  | _ => none }
def fnExactStampOkRow : OpenClaim := { program := "ytadiicaggdkboaa", sum := "3115cbc88f0ff09d309e8da18562853fbd8a5834f4487f3bc97c2cdfec74f3f0", func := "loop.example/g00973/laws.FnExactStampOk", spec := "fnExactStampOk", apart := false }
def FnExactStampOkSaid : Prop := fnExactStampOkRow.holds Try.pinned (OpenSpec.ofChange fnExactStampOkSpec)

/-- ITS FALSE NEIGHBOUR: 'it returns false'. Refute it at one input. -/
def fnExactStampOkWrong : ChangeSpec := { name := "fnExactStampOk", fn := fun _ => fun
  | [d] => { results := [.lit (.bool false)], args := [d] }
  | _ => none }
def FnExactStampOkWrongFalsely : Prop := fnExactStampOkRow.holds Try.pinned (OpenSpec.ofChange fnExactStampOkWrong)

/-- 'laws.FnExactBrought': WHATEVER THE INPUT: true; the input reads as it did. -/
def fnExactBroughtSpec : ChangeSpec := { name := "fnExactBrought", fn := fun _ => fun
  | [d1, d2, d3] => { results := [.lit (.bool true)], args := [d1, d2, d3] }
  | _ => none }
def fnExactBroughtRow : OpenClaim := { program := "ytadiicaggdkboaa", sum := "3115cbc88f0ff09d309e8da18562853fbd8a5834f4487f3bc97c2cdfec74f3f0", func := "loop.example/g00973/laws.FnExactBrought", spec := "fnExactBrought", apart := false }
def FnExactBroughtSaid : Prop := fnExactBroughtRow.holds Try.pinned (OpenSpec.ofChange fnExactBroughtSpec)

/-- ITS FALSE NEIGHBOUR: 'it returns false'. Refute it at one input. -/
def fnExactBroughtWrong : ChangeSpec := { name := "fnExactBrought", fn := fun _ => fun
  | [d1, d2, d3] => { results := [.lit (.bool false)], args := [d1, d2, d3] }
  | _ => none }
def FnExactBroughtWrongFalsely : Prop := fnExactBroughtRow.holds Try.pinned (OpenSpec.ofChange fnExactBroughtWrong)

/-- 'laws.FnExactKindName': WHATEVER THE INPUT: true; the input reads as it did. -/
def fnExactKindNameSpec : ChangeSpec := { name := "fnExactKindName", fn := fun _ => fun
  | [d] => { results := [.lit (.bool true)], args := [d] }
  | _ => none }
def fnExactKindNameRow : OpenClaim := { program := "ytadiicaggdkboaa", sum := "3115cbc88f0ff09d309e8da18562853fbd8a5834f4487f3bc97c2cdfec74f3f0", func := "loop.example/g00973/laws.FnExactKindName", spec := "fnExactKindName", apart := false }
def FnExactKindNameSaid : Prop := fnExactKindNameRow.holds Try.pinned (OpenSpec.ofChange fnExactKindNameSpec)

/-- ITS FALSE NEIGHBOUR: 'it returns false'. Refute it at one input. -/
def fnExactKindNameWrong : ChangeSpec := { name := "fnExactKindName", fn := fun _ => fun
  | [d] => { results := [.lit (.bool false)], args := [d] }
  | _ => none }
def FnExactKindNameWrongFalsely : Prop := fnExactKindNameRow.holds Try.pinned (OpenSpec.ofChange fnExactKindNameWrong)

/-- 'laws.FnExactOwnerOf': WHATEVER THE INPUT: true; the input reads as it did. -/
def fnExactOwnerOfSpec : ChangeSpec := { name := "fnExactOwnerOf", fn := fun _ => fun
  | [d1, d2] => { results := [.lit (.bool true)], args := [d1, d2] }
  | _ => none }
def fnExactOwnerOfRow : OpenClaim := { program := "ytadiicaggdkboaa", sum := "3115cbc88f0ff09d309e8da18562853fbd8a5834f4487f3bc97c2cdfec74f3f0", func := "loop.example/g00973/laws.FnExactOwnerOf", spec := "fnExactOwnerOf", apart := false }
def FnExactOwnerOfSaid : Prop := fnExactOwnerOfRow.holds Try.pinned (OpenSpec.ofChange fnExactOwnerOfSpec)

/-- ITS FALSE NEIGHBOUR: 'it returns false'. Refute it at one input. -/
def fnExactOwnerOfWrong : ChangeSpec := { name := "fnExactOwnerOf", fn := fun _ => fun
  | [d1, d2] => { results := [.lit (.bool false)], args := [d1, d2] }
  | _ => none }
def FnExactOwnerOfWrongFalsely : Prop := fnExactOwnerOfRow.holds Try.pinned (OpenSpec.ofChange fnExactOwnerOfWrong)

/-- 'laws.FnExactHex': WHATEVER THE INPUT: true; the input reads as it did. -/
def fnExactHexSpec : ChangeSpec := { name := "fnExactHex", fn := fun _ => fun
  | [d] => { results := [.lit (.bool true)], args := [d] }
  | _ => none }
def fnExactHexRow : OpenClaim := { program := "ytadiicaggdkboaa", sum := "3115cbc88f0ff09d309e8da18562853fbd8a5834f4487f3bc97c2cdfec74f3f0", func := "loop.example/g00973/laws.FnExactHex", spec := "fnExactHex", apart := false }
def FnExactHexSaid : Prop := fnExactHexRow.holds Try.pinned (OpenSpec.ofChange fnExactHexSpec)

/-- ITS FALSE NEIGHBOUR: 'it returns false'. Refute it at one input. -/
def fnExactHexWrong : ChangeSpec := { name := "fnExactHex", fn := fun _ => fun
  | [d] => { results := [.lit (.bool false)], args := [d] }
  | _ => none }
def FnExactHexWrongFalsely : Prop := fnExactHexRow.holds Try.pinned (OpenSpec.ofChange fnExactHexWrong)

/-- 'laws.FnExactStampJoin': WHATEVER THE INPUT: true; the input reads as it did. -/
def fnExactStampJoinSpec : ChangeSpec := { name := "fnExactStampJoin", fn := fun _ => fun
  | [d1, d2] => { results := [.lit (.bool true)], args := [d1, d2] }
  | _ => none }
def fnExactStampJoinRow : OpenClaim := { program := "ytadiicaggdkboaa", sum := "3115cbc88f0ff09d309e8da18562853fbd8a5834f4487f3bc97c2cdfec74f3f0", func := "loop.example/g00973/laws.FnExactStampJoin", spec := "fnExactStampJoin", apart := false }
def FnExactStampJoinSaid : Prop := fnExactStampJoinRow.holds Try.pinned (OpenSpec.ofChange fnExactStampJoinSpec)

/-- ITS FALSE NEIGHBOUR: 'it returns false'. Refute it at one input. -/
def fnExactStampJoinWrong : ChangeSpec := { name := "fnExactStampJoin", fn := fun _ => fun
  | [d1, d2] => { results := [.lit (.bool false)], args := [d1, d2] }
  | _ => none }
def FnExactStampJoinWrongFalsely : Prop := fnExactStampJoinRow.holds Try.pinned (OpenSpec.ofChange fnExactStampJoinWrong)

/-- 'laws.FnExactStampMeet': WHATEVER THE INPUT: true; the input reads as it did. -/
def fnExactStampMeetSpec : ChangeSpec := { name := "fnExactStampMeet", fn := fun _ => fun
  | [d1, d2] => { results := [.lit (.bool true)], args := [d1, d2] }
  | _ => none }
def fnExactStampMeetRow : OpenClaim := { program := "ytadiicaggdkboaa", sum := "3115cbc88f0ff09d309e8da18562853fbd8a5834f4487f3bc97c2cdfec74f3f0", func := "loop.example/g00973/laws.FnExactStampMeet", spec := "fnExactStampMeet", apart := false }
def FnExactStampMeetSaid : Prop := fnExactStampMeetRow.holds Try.pinned (OpenSpec.ofChange fnExactStampMeetSpec)

/-- ITS FALSE NEIGHBOUR: 'it returns false'. Refute it at one input. -/
def fnExactStampMeetWrong : ChangeSpec := { name := "fnExactStampMeet", fn := fun _ => fun
  | [d1, d2] => { results := [.lit (.bool false)], args := [d1, d2] }
  | _ => none }
def FnExactStampMeetWrongFalsely : Prop := fnExactStampMeetRow.holds Try.pinned (OpenSpec.ofChange fnExactStampMeetWrong)

/-- 'laws.FnExactRecordOk': WHATEVER THE INPUT: true; the input reads as it did. -/
def fnExactRecordOkSpec : ChangeSpec := { name := "fnExactRecordOk", fn := fun _ => fun
  | [d] => { results := [.lit (.bool true)], args := [d] }
  | _ => none }
def fnExactRecordOkRow : OpenClaim := { program := "ytadiicaggdkboaa", sum := "3115cbc88f0ff09d309e8da18562853fbd8a5834f4487f3bc97c2cdfec74f3f0", func := "loop.example/g00973/laws.FnExactRecordOk", spec := "fnExactRecordOk", apart := false }
def FnExactRecordOkSaid : Prop := fnExactRecordOkRow.holds Try.pinned (OpenSpec.ofChange fnExactRecordOkSpec)

/-- ITS FALSE NEIGHBOUR: 'it returns false'. Refute it at one input. -/
def fnExactRecordOkWrong : ChangeSpec := { name := "fnExactRecordOk", fn := fun _ => fun
  | [d] => { results := [.lit (.bool false)], args := [d] }
  | _ => none }
def FnExactRecordOkWrongFalsely : Prop := fnExactRecordOkRow.holds Try.pinned (OpenSpec.ofChange fnExactRecordOkWrong)

/-- 'laws.FnExactNextTurn': WHATEVER THE INPUT: true; the input reads as it did. -/
def fnExactNextTurnSpec : ChangeSpec := { name := "fnExactNextTurn", fn := fun _ => fun
  | [d] => { results := [.lit (.bool true)], args := [d] }
  | _ => none }
def fnExactNextTurnRow : OpenClaim := { program := "ytadiicaggdkboaa", sum := "3115cbc88f0ff09d309e8da18562853fbd8a5834f4487f3bc97c2cdfec74f3f0", func := "loop.example/g00973/laws.FnExactNextTurn", spec := "fnExactNextTurn", apart := false }
def FnExactNextTurnSaid : Prop := fnExactNextTurnRow.holds Try.pinned (OpenSpec.ofChange fnExactNextTurnSpec)

/-- ITS FALSE NEIGHBOUR: 'it returns false'. Refute it at one input. -/
def fnExactNextTurnWrong : ChangeSpec := { name := "fnExactNextTurn", fn := fun _ => fun
  | [d] => { results := [.lit (.bool false)], args := [d] }
  | _ => none }
def FnExactNextTurnWrongFalsely : Prop := fnExactNextTurnRow.holds Try.pinned (OpenSpec.ofChange fnExactNextTurnWrong)

/- THE SECOND FORM. 'bulk': how many values and letters a reading holds, each counted each time it is reached (what is shared counts as often as it is met; a slice's spare places count too). A statement '..UptoSaid' is the law's where the arguments, and the package variables that the reading takes, are together of bulk at most 1048576: NARROWER than '..Said'. Prove '..Said' where nothing that the law and all that it calls make is longer than what came in: it says more and counts as full. Else prove '..UptoSaid'. A law counts once. -/
mutual
def uptoBulk {H : Type} : DataW H → Nat
  | .lit (.string bytes) => bytes.length + 1
  | .lit _ => 1
  | .nil => 1
  | .ptr d => uptoBulk d + 1
  | .slice elems spare => uptoBulkAll elems + uptoBulkAll spare + 1
  | .agg parts => uptoBulkAll parts + 1
  | .iface _ d => uptoBulk d + 1
  | .map entries => uptoBulkEntries entries + 1
  | .held _ => 1
def uptoBulkAll {H : Type} : List (DataW H) → Nat
  | [] => 0
  | d :: r => uptoBulk d + uptoBulkAll r
def uptoBulkEntries {H : Type} : List (Lit × DataW H) → Nat
  | [] => 0
  | x :: r => uptoBulkEntry x + uptoBulkEntries r
def uptoBulkEntry {H : Type} : Lit × DataW H → Nat
  | (.string bytes, d) => bytes.length + uptoBulk d + 1
  | (_, d) => uptoBulk d + 1
 end
def uptoSmall : (H : Type) → List (DataW H) → Bool := fun _ ds => decide (uptoBulkAll ds ≤ 1048576)
def OpenSpec.upto (s : _root_.Go.ChangeSpec) : _root_.Go.OpenSpec := { _root_.Go.OpenSpec.ofChange s with cond := some uptoSmall }

/-- 'laws.FnExactConstants', WHERE WHAT IT READS IS OF BULK AT MOST 1048576: true; the input reads as it did. -/
def fnExactConstantsUptoRow : OpenClaim := { program := "ytadiicaggdkboaa", sum := "3115cbc88f0ff09d309e8da18562853fbd8a5834f4487f3bc97c2cdfec74f3f0", func := "loop.example/g00973/laws.FnExactConstants", spec := "fnExactConstants", apart := false, narrowed := true }
def FnExactConstantsUptoSaid : Prop := fnExactConstantsUptoRow.holds Try.pinned (OpenSpec.upto fnExactConstantsSpec)

/-- 'laws.FnExactRemembers', WHERE WHAT IT READS IS OF BULK AT MOST 1048576: true; the input reads as it did. -/
def fnExactRemembersUptoRow : OpenClaim := { program := "ytadiicaggdkboaa", sum := "3115cbc88f0ff09d309e8da18562853fbd8a5834f4487f3bc97c2cdfec74f3f0", func := "loop.example/g00973/laws.FnExactRemembers", spec := "fnExactRemembers", apart := false, narrowed := true }
def FnExactRemembersUptoSaid : Prop := fnExactRemembersUptoRow.holds Try.pinned (OpenSpec.upto fnExactRemembersSpec)

/-- 'laws.FnExactStampLeq', WHERE WHAT IT READS IS OF BULK AT MOST 1048576: true; the input reads as it did. -/
def fnExactStampLeqUptoRow : OpenClaim := { program := "ytadiicaggdkboaa", sum := "3115cbc88f0ff09d309e8da18562853fbd8a5834f4487f3bc97c2cdfec74f3f0", func := "loop.example/g00973/laws.FnExactStampLeq", spec := "fnExactStampLeq", apart := false, narrowed := true }
def FnExactStampLeqUptoSaid : Prop := fnExactStampLeqUptoRow.holds Try.pinned (OpenSpec.upto fnExactStampLeqSpec)

/-- 'laws.FnExactStampOk', WHERE WHAT IT READS IS OF BULK AT MOST 1048576: true; the input reads as it did. -/
def fnExactStampOkUptoRow : OpenClaim := { program := "ytadiicaggdkboaa", sum := "3115cbc88f0ff09d309e8da18562853fbd8a5834f4487f3bc97c2cdfec74f3f0", func := "loop.example/g00973/laws.FnExactStampOk", spec := "fnExactStampOk", apart := false, narrowed := true }
def FnExactStampOkUptoSaid : Prop := fnExactStampOkUptoRow.holds Try.pinned (OpenSpec.upto fnExactStampOkSpec)

/-- 'laws.FnExactBrought', WHERE WHAT IT READS IS OF BULK AT MOST 1048576: true; the input reads as it did. -/
def fnExactBroughtUptoRow : OpenClaim := { program := "ytadiicaggdkboaa", sum := "3115cbc88f0ff09d309e8da18562853fbd8a5834f4487f3bc97c2cdfec74f3f0", func := "loop.example/g00973/laws.FnExactBrought", spec := "fnExactBrought", apart := false, narrowed := true }
def FnExactBroughtUptoSaid : Prop := fnExactBroughtUptoRow.holds Try.pinned (OpenSpec.upto fnExactBroughtSpec)

/-- 'laws.FnExactKindName', WHERE WHAT IT READS IS OF BULK AT MOST 1048576: true; the input reads as it did. -/
def fnExactKindNameUptoRow : OpenClaim := { program := "ytadiicaggdkboaa", sum := "3115cbc88f0ff09d309e8da18562853fbd8a5834f4487f3bc97c2cdfec74f3f0", func := "loop.example/g00973/laws.FnExactKindName", spec := "fnExactKindName", apart := false, narrowed := true }
def FnExactKindNameUptoSaid : Prop := fnExactKindNameUptoRow.holds Try.pinned (OpenSpec.upto fnExactKindNameSpec)

/-- 'laws.FnExactOwnerOf', WHERE WHAT IT READS IS OF BULK AT MOST 1048576: true; the input reads as it did. -/
def fnExactOwnerOfUptoRow : OpenClaim := { program := "ytadiicaggdkboaa", sum := "3115cbc88f0ff09d309e8da18562853fbd8a5834f4487f3bc97c2cdfec74f3f0", func := "loop.example/g00973/laws.FnExactOwnerOf", spec := "fnExactOwnerOf", apart := false, narrowed := true }
def FnExactOwnerOfUptoSaid : Prop := fnExactOwnerOfUptoRow.holds Try.pinned (OpenSpec.upto fnExactOwnerOfSpec)

/-- 'laws.FnExactHex', WHERE WHAT IT READS IS OF BULK AT MOST 1048576: true; the input reads as it did. -/
def fnExactHexUptoRow : OpenClaim := { program := "ytadiicaggdkboaa", sum := "3115cbc88f0ff09d309e8da18562853fbd8a5834f4487f3bc97c2cdfec74f3f0", func := "loop.example/g00973/laws.FnExactHex", spec := "fnExactHex", apart := false, narrowed := true }
def FnExactHexUptoSaid : Prop := fnExactHexUptoRow.holds Try.pinned (OpenSpec.upto fnExactHexSpec)

/-- 'laws.FnExactStampJoin', WHERE WHAT IT READS IS OF BULK AT MOST 1048576: true; the input reads as it did. -/
def fnExactStampJoinUptoRow : OpenClaim := { program := "ytadiicaggdkboaa", sum := "3115cbc88f0ff09d309e8da18562853fbd8a5834f4487f3bc97c2cdfec74f3f0", func := "loop.example/g00973/laws.FnExactStampJoin", spec := "fnExactStampJoin", apart := false, narrowed := true }
def FnExactStampJoinUptoSaid : Prop := fnExactStampJoinUptoRow.holds Try.pinned (OpenSpec.upto fnExactStampJoinSpec)

/-- 'laws.FnExactStampMeet', WHERE WHAT IT READS IS OF BULK AT MOST 1048576: true; the input reads as it did. -/
def fnExactStampMeetUptoRow : OpenClaim := { program := "ytadiicaggdkboaa", sum := "3115cbc88f0ff09d309e8da18562853fbd8a5834f4487f3bc97c2cdfec74f3f0", func := "loop.example/g00973/laws.FnExactStampMeet", spec := "fnExactStampMeet", apart := false, narrowed := true }
def FnExactStampMeetUptoSaid : Prop := fnExactStampMeetUptoRow.holds Try.pinned (OpenSpec.upto fnExactStampMeetSpec)

/-- 'laws.FnExactRecordOk', WHERE WHAT IT READS IS OF BULK AT MOST 1048576: true; the input reads as it did. -/
def fnExactRecordOkUptoRow : OpenClaim := { program := "ytadiicaggdkboaa", sum := "3115cbc88f0ff09d309e8da18562853fbd8a5834f4487f3bc97c2cdfec74f3f0", func := "loop.example/g00973/laws.FnExactRecordOk", spec := "fnExactRecordOk", apart := false, narrowed := true }
def FnExactRecordOkUptoSaid : Prop := fnExactRecordOkUptoRow.holds Try.pinned (OpenSpec.upto fnExactRecordOkSpec)

/-- 'laws.FnExactNextTurn', WHERE WHAT IT READS IS OF BULK AT MOST 1048576: true; the input reads as it did. -/
def fnExactNextTurnUptoRow : OpenClaim := { program := "ytadiicaggdkboaa", sum := "3115cbc88f0ff09d309e8da18562853fbd8a5834f4487f3bc97c2cdfec74f3f0", func := "loop.example/g00973/laws.FnExactNextTurn", spec := "fnExactNextTurn", apart := false, narrowed := true }
def FnExactNextTurnUptoSaid : Prop := fnExactNextTurnUptoRow.holds Try.pinned (OpenSpec.upto fnExactNextTurnSpec)

end Rows
end Go.Proofs.Ytadiicaggdkboaa
