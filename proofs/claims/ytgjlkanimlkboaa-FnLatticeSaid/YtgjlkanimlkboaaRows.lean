/-
  No cell of these rows narrows 'for every input' (looked for: loops, veiled, ifaces, maps, wideKeys, modest, calm, conditions, laid).
  DERIVED. THE GIVEN ROWS OF THIS SEAT. 6 by the template 'for every input the law returns true; each argument reads behind the call as it read before'; 0 by the template 'total and deterministic' (their statements: YtgjlkanimlkboaaTotals.lean).
  GIVEN WITH THE SEED: the statements are not yours to turn. If you find one false, say at which input.
  Laid BY PROGRAM, IN A SANDBOX (cutbox-rows.mjs): the forced cells as the released guide's own fill.sh prints them over the translation 3f350e4c3c0bef21… (all of the seat's roots in one cut). By AI agents, Wed Nov 11 2026. No macro, syntax, notation, axiom, sorry.
-/
import Derived.Test.YtgjlkanimlkboaaChecked
import GoSem.Claim
import GoSem.ClaimJoined
import GoSem.ClaimMapViews
import Derived.JoinedTies
import Derived.KernelRfl
namespace Go.Proofs.Ytgjlkanimlkboaa
/- THE CELL 'sum', in the pinned program and in every row, IS THE sha256 OF THE DUMP (.gsa) THAT YtgjlkanimlkboaaProg.lean LOADS. Nothing in Lean hashes anything: it is a label: what it is worth is what the hold of that sum in a sandbox is worth. -/
noncomputable def Try.pinned : Pinned := { name := "ytgjlkanimlkboaa", sum := "3f350e4c3c0bef212b617a950ab38c7a10107aac1bc128dfe0aef1d6efd99297", checked := Try.checked }
namespace Rows
def none {H : Type} : Left H := { results := [], args := [] }

/-- 'laws.FnExactHex': WHATEVER THE INPUT: true; the input reads as it did. -/
def fnExactHexSpec : ChangeSpec := { name := "fnExactHex", fn := fun _ => fun
  | [d] => { results := [.lit (.bool true)], args := [d] }
  | _ => none }
def fnExactHexRow : OpenClaim := { program := "ytgjlkanimlkboaa", sum := "3f350e4c3c0bef212b617a950ab38c7a10107aac1bc128dfe0aef1d6efd99297", func := "loop.example/g00973/laws.FnExactHex", spec := "fnExactHex", apart := false }
def FnExactHexSaid : Prop := fnExactHexRow.holds Try.pinned (OpenSpec.ofChange fnExactHexSpec)

/-- ITS FALSE NEIGHBOUR: 'it returns false'. Refute it at one input. -/
def fnExactHexWrong : ChangeSpec := { name := "fnExactHex", fn := fun _ => fun
  | [d] => { results := [.lit (.bool false)], args := [d] }
  | _ => none }
def FnExactHexWrongFalsely : Prop := fnExactHexRow.holds Try.pinned (OpenSpec.ofChange fnExactHexWrong)

/-- 'laws.FnExactUnhex': WHATEVER THE INPUT: true; the input reads as it did. -/
def fnExactUnhexSpec : ChangeSpec := { name := "fnExactUnhex", fn := fun _ => fun
  | [d] => { results := [.lit (.bool true)], args := [d] }
  | _ => none }
def fnExactUnhexRow : OpenClaim := { program := "ytgjlkanimlkboaa", sum := "3f350e4c3c0bef212b617a950ab38c7a10107aac1bc128dfe0aef1d6efd99297", func := "loop.example/g00973/laws.FnExactUnhex", spec := "fnExactUnhex", inPlace := ["internal/bytealg.IndexByteString"], apart := false }
def FnExactUnhexSaid : Prop := fnExactUnhexRow.holds Try.pinned (OpenSpec.ofChange fnExactUnhexSpec)

/-- ITS FALSE NEIGHBOUR: 'it returns false'. Refute it at one input. -/
def fnExactUnhexWrong : ChangeSpec := { name := "fnExactUnhex", fn := fun _ => fun
  | [d] => { results := [.lit (.bool false)], args := [d] }
  | _ => none }
def FnExactUnhexWrongFalsely : Prop := fnExactUnhexRow.holds Try.pinned (OpenSpec.ofChange fnExactUnhexWrong)

/-- 'laws.FnExactStampJoin': WHATEVER THE INPUT: true; the input reads as it did. -/
def fnExactStampJoinSpec : ChangeSpec := { name := "fnExactStampJoin", fn := fun _ => fun
  | [d1, d2] => { results := [.lit (.bool true)], args := [d1, d2] }
  | _ => none }
def fnExactStampJoinRow : OpenClaim := { program := "ytgjlkanimlkboaa", sum := "3f350e4c3c0bef212b617a950ab38c7a10107aac1bc128dfe0aef1d6efd99297", func := "loop.example/g00973/laws.FnExactStampJoin", spec := "fnExactStampJoin", apart := false }
def FnExactStampJoinSaid : Prop := fnExactStampJoinRow.holds Try.pinned (OpenSpec.ofChange fnExactStampJoinSpec)

/-- ITS FALSE NEIGHBOUR: 'it returns false'. Refute it at one input. -/
def fnExactStampJoinWrong : ChangeSpec := { name := "fnExactStampJoin", fn := fun _ => fun
  | [d1, d2] => { results := [.lit (.bool false)], args := [d1, d2] }
  | _ => none }
def FnExactStampJoinWrongFalsely : Prop := fnExactStampJoinRow.holds Try.pinned (OpenSpec.ofChange fnExactStampJoinWrong)

/-- 'laws.FnExactStampMeet': WHATEVER THE INPUT: true; the input reads as it did. -/
def fnExactStampMeetSpec : ChangeSpec := { name := "fnExactStampMeet", fn := fun _ => fun
  | [d1, d2] => { results := [.lit (.bool true)], args := [d1, d2] }
  | _ => none }
def fnExactStampMeetRow : OpenClaim := { program := "ytgjlkanimlkboaa", sum := "3f350e4c3c0bef212b617a950ab38c7a10107aac1bc128dfe0aef1d6efd99297", func := "loop.example/g00973/laws.FnExactStampMeet", spec := "fnExactStampMeet", apart := false }
def FnExactStampMeetSaid : Prop := fnExactStampMeetRow.holds Try.pinned (OpenSpec.ofChange fnExactStampMeetSpec)

/-- ITS FALSE NEIGHBOUR: 'it returns false'. Refute it at one input. -/
def fnExactStampMeetWrong : ChangeSpec := { name := "fnExactStampMeet", fn := fun _ => fun
  | [d1, d2] => { results := [.lit (.bool false)], args := [d1, d2] }
  | _ => none }
def FnExactStampMeetWrongFalsely : Prop := fnExactStampMeetRow.holds Try.pinned (OpenSpec.ofChange fnExactStampMeetWrong)

/-- 'laws.FnLattice': WHATEVER THE INPUT: true; the input reads as it did. -/
def fnLatticeSpec : ChangeSpec := { name := "fnLattice", fn := fun _ => fun
  | [d] => { results := [.lit (.bool true)], args := [d] }
  | _ => none }
def fnLatticeRow : OpenClaim := { program := "ytgjlkanimlkboaa", sum := "3f350e4c3c0bef212b617a950ab38c7a10107aac1bc128dfe0aef1d6efd99297", func := "loop.example/g00973/laws.FnLattice", spec := "fnLattice", apart := false }
def FnLatticeSaid : Prop := fnLatticeRow.holds Try.pinned (OpenSpec.ofChange fnLatticeSpec)

/-- ITS FALSE NEIGHBOUR: 'it returns false'. Refute it at one input. -/
def fnLatticeWrong : ChangeSpec := { name := "fnLattice", fn := fun _ => fun
  | [d] => { results := [.lit (.bool false)], args := [d] }
  | _ => none }
def FnLatticeWrongFalsely : Prop := fnLatticeRow.holds Try.pinned (OpenSpec.ofChange fnLatticeWrong)

/-- 'laws.FnOwners': WHATEVER THE INPUT: true; the input reads as it did. -/
def fnOwnersSpec : ChangeSpec := { name := "fnOwners", fn := fun _ => fun
  | [d] => { results := [.lit (.bool true)], args := [d] }
  | _ => none }
def fnOwnersRow : OpenClaim := { program := "ytgjlkanimlkboaa", sum := "3f350e4c3c0bef212b617a950ab38c7a10107aac1bc128dfe0aef1d6efd99297", func := "loop.example/g00973/laws.FnOwners", spec := "fnOwners", apart := false }
def FnOwnersSaid : Prop := fnOwnersRow.holds Try.pinned (OpenSpec.ofChange fnOwnersSpec)

/-- ITS FALSE NEIGHBOUR: 'it returns false'. Refute it at one input. -/
def fnOwnersWrong : ChangeSpec := { name := "fnOwners", fn := fun _ => fun
  | [d] => { results := [.lit (.bool false)], args := [d] }
  | _ => none }
def FnOwnersWrongFalsely : Prop := fnOwnersRow.holds Try.pinned (OpenSpec.ofChange fnOwnersWrong)

/- THE SECOND FORM. 'bulk': how many values and letters a reading holds, each counted each time it is reached (what is shared counts as often as it is met; a slice's spare places count too). A statement '..UptoSaid' is the law's where the arguments, and the package variables that the reading takes, are together of bulk at most 1048576: NARROWER than '..Said'. Prove '..Said' where nothing that the law and all that it calls make is longer than what came in: it says more and counts as full. Else prove '..UptoSaid'. A law counts once. -/
mutual
def uptoBulk {H : Type} : DataW H → Nat
  | .lit (.string bytes) => bytes.length + 1
  | .lit _ => 1
  | .nil => 1
  | .ptr d => uptoBulk d + 1
  | .slice elems spare => uptoBulkAll elems + uptoBulkAll spare + 1
  | .agg parts => uptoBulkAll parts + 1
  | .iface _ d => uptoBulk d + 1
  | .map entries => uptoBulkEntries entries + 1
  | .held _ => 1
def uptoBulkAll {H : Type} : List (DataW H) → Nat
  | [] => 0
  | d :: r => uptoBulk d + uptoBulkAll r
def uptoBulkEntries {H : Type} : List (Lit × DataW H) → Nat
  | [] => 0
  | x :: r => uptoBulkEntry x + uptoBulkEntries r
def uptoBulkEntry {H : Type} : Lit × DataW H → Nat
  | (.string bytes, d) => bytes.length + uptoBulk d + 1
  | (_, d) => uptoBulk d + 1
 end
def uptoSmall : (H : Type) → List (DataW H) → Bool := fun _ ds => decide (uptoBulkAll ds ≤ 1048576)
def OpenSpec.upto (s : _root_.Go.ChangeSpec) : _root_.Go.OpenSpec := { _root_.Go.OpenSpec.ofChange s with cond := some uptoSmall }

/-- 'laws.FnExactHex', WHERE WHAT IT READS IS OF BULK AT MOST 1048576: true; the input reads as it did. -/
def fnExactHexUptoRow : OpenClaim := { program := "ytgjlkanimlkboaa", sum := "3f350e4c3c0bef212b617a950ab38c7a10107aac1bc128dfe0aef1d6efd99297", func := "loop.example/g00973/laws.FnExactHex", spec := "fnExactHex", apart := false, narrowed := true }
def FnExactHexUptoSaid : Prop := fnExactHexUptoRow.holds Try.pinned (OpenSpec.upto fnExactHexSpec)

/-- 'laws.FnExactUnhex', WHERE WHAT IT READS IS OF BULK AT MOST 1048576: true; the input reads as it did. -/
def fnExactUnhexUptoRow : OpenClaim := { program := "ytgjlkanimlkboaa", sum := "3f350e4c3c0bef212b617a950ab38c7a10107aac1bc128dfe0aef1d6efd99297", func := "loop.example/g00973/laws.FnExactUnhex", spec := "fnExactUnhex", inPlace := ["internal/bytealg.IndexByteString"], apart := false, narrowed := true }
def FnExactUnhexUptoSaid : Prop := fnExactUnhexUptoRow.holds Try.pinned (OpenSpec.upto fnExactUnhexSpec)

/-- 'laws.FnExactStampJoin', WHERE WHAT IT READS IS OF BULK AT MOST 1048576: true; the input reads as it did. -/
def fnExactStampJoinUptoRow : OpenClaim := { program := "ytgjlkanimlkboaa", sum := "3f350e4c3c0bef212b617a950ab38c7a10107aac1bc128dfe0aef1d6efd99297", func := "loop.example/g00973/laws.FnExactStampJoin", spec := "fnExactStampJoin", apart := false, narrowed := true }
def FnExactStampJoinUptoSaid : Prop := fnExactStampJoinUptoRow.holds Try.pinned (OpenSpec.upto fnExactStampJoinSpec)

/-- 'laws.FnExactStampMeet', WHERE WHAT IT READS IS OF BULK AT MOST 1048576: true; the input reads as it did. -/
def fnExactStampMeetUptoRow : OpenClaim := { program := "ytgjlkanimlkboaa", sum := "3f350e4c3c0bef212b617a950ab38c7a10107aac1bc128dfe0aef1d6efd99297", func := "loop.example/g00973/laws.FnExactStampMeet", spec := "fnExactStampMeet", apart := false, narrowed := true }
def FnExactStampMeetUptoSaid : Prop := fnExactStampMeetUptoRow.holds Try.pinned (OpenSpec.upto fnExactStampMeetSpec)

/-- 'laws.FnLattice', WHERE WHAT IT READS IS OF BULK AT MOST 1048576: true; the input reads as it did. -/
def fnLatticeUptoRow : OpenClaim := { program := "ytgjlkanimlkboaa", sum := "3f350e4c3c0bef212b617a950ab38c7a10107aac1bc128dfe0aef1d6efd99297", func := "loop.example/g00973/laws.FnLattice", spec := "fnLattice", apart := false, narrowed := true }
def FnLatticeUptoSaid : Prop := fnLatticeUptoRow.holds Try.pinned (OpenSpec.upto fnLatticeSpec)

/-- 'laws.FnOwners', WHERE WHAT IT READS IS OF BULK AT MOST 1048576: true; the input reads as it did. -/
def fnOwnersUptoRow : OpenClaim := { program := "ytgjlkanimlkboaa", sum := "3f350e4c3c0bef212b617a950ab38c7a10107aac1bc128dfe0aef1d6efd99297", func := "loop.example/g00973/laws.FnOwners", spec := "fnOwners", apart := false, narrowed := true }
def FnOwnersUptoSaid : Prop := fnOwnersUptoRow.holds Try.pinned (OpenSpec.upto fnOwnersSpec)

end Rows
end Go.Proofs.Ytgjlkanimlkboaa
