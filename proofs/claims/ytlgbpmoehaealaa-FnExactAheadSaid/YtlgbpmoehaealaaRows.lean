/-
  No cell of these rows narrows 'for every input' (looked for: loops, veiled, ifaces, maps, wideKeys, modest, calm, conditions, laid).
  DERIVED. THE GIVEN ROWS OF THIS SEAT. 6 by the template 'for every input the law returns true; each argument reads behind the call as it read before'; 0 by the template 'total and deterministic' (their statements: YtlgbpmoehaealaaTotals.lean).
  GIVEN WITH THE SEED: the statements are not yours to turn. If you find one false, say at which input.
  Laid BY PROGRAM, IN A SANDBOX (cutbox-rows.mjs): the forced cells as the released guide's own fill.sh prints them over the translation 26d061e18372e814… (all of the seat's roots in one cut). By AI agents, Wed Nov 11 2026. No macro, syntax, notation, axiom, sorry.
-/
import Derived.Test.YtlgbpmoehaealaaChecked
import GoSem.Claim
import GoSem.ClaimJoined
import GoSem.ClaimMapViews
import Derived.JoinedTies
import Derived.KernelRfl
namespace Go.Proofs.Ytlgbpmoehaealaa
/- THE CELL 'sum', in the pinned program and in every row, IS THE sha256 OF THE DUMP (.gsa) THAT YtlgbpmoehaealaaProg.lean LOADS. Nothing in Lean hashes anything: it is a label: what it is worth is what the hold of that sum in a sandbox is worth. -/
noncomputable def Try.pinned : Pinned := { name := "ytlgbpmoehaealaa", sum := "26d061e18372e814f960ed938c542db11e42c12a7b57bf0ff0d251c2d7d5da41", checked := Try.checked }
namespace Rows
def none {H : Type} : Left H := { results := [], args := [] }

/-- 'laws.FnExactEpochOver': WHATEVER THE INPUT: true; the input reads as it did. -/
def fnExactEpochOverSpec : ChangeSpec := { name := "fnExactEpochOver", fn := fun _ => fun
  | [d1, d2] => { results := [.lit (.bool true)], args := [d1, d2] }
  | _ => none }
def fnExactEpochOverRow : OpenClaim := { program := "ytlgbpmoehaealaa", sum := "26d061e18372e814f960ed938c542db11e42c12a7b57bf0ff0d251c2d7d5da41", func := "loop.example/g00973/laws.FnExactEpochOver", spec := "fnExactEpochOver", unfollowed := true, recurses := true, apart := false }
def FnExactEpochOverSaid : Prop := fnExactEpochOverRow.holds Try.pinned (OpenSpec.ofChange fnExactEpochOverSpec)

/-- ITS FALSE NEIGHBOUR: 'it returns false'. Refute it at one input. -/
def fnExactEpochOverWrong : ChangeSpec := { name := "fnExactEpochOver", fn := fun _ => fun
  | [d1, d2] => { results := [.lit (.bool false)], args := [d1, d2] }
  | _ => none }
def FnExactEpochOverWrongFalsely : Prop := fnExactEpochOverRow.holds Try.pinned (OpenSpec.ofChange fnExactEpochOverWrong)

/-- 'laws.FnExactSameFront': WHATEVER THE INPUT: true; the input reads as it did. -/
def fnExactSameFrontSpec : ChangeSpec := { name := "fnExactSameFront", fn := fun _ => fun
  | [d1, d2] => { results := [.lit (.bool true)], args := [d1, d2] }
  | _ => none }
def fnExactSameFrontRow : OpenClaim := { program := "ytlgbpmoehaealaa", sum := "26d061e18372e814f960ed938c542db11e42c12a7b57bf0ff0d251c2d7d5da41", func := "loop.example/g00973/laws.FnExactSameFront", spec := "fnExactSameFront", apart := false }
def FnExactSameFrontSaid : Prop := fnExactSameFrontRow.holds Try.pinned (OpenSpec.ofChange fnExactSameFrontSpec)

/-- ITS FALSE NEIGHBOUR: 'it returns false'. Refute it at one input. -/
def fnExactSameFrontWrong : ChangeSpec := { name := "fnExactSameFront", fn := fun _ => fun
  | [d1, d2] => { results := [.lit (.bool false)], args := [d1, d2] }
  | _ => none }
def FnExactSameFrontWrongFalsely : Prop := fnExactSameFrontRow.holds Try.pinned (OpenSpec.ofChange fnExactSameFrontWrong)

/-- 'laws.FnExactStampOrder': WHATEVER THE INPUT: true; the input reads as it did. -/
def fnExactStampOrderSpec : ChangeSpec := { name := "fnExactStampOrder", fn := fun _ => fun
  | [d1, d2] => { results := [.lit (.bool true)], args := [d1, d2] }
  | _ => none }
def fnExactStampOrderRow : OpenClaim := { program := "ytlgbpmoehaealaa", sum := "26d061e18372e814f960ed938c542db11e42c12a7b57bf0ff0d251c2d7d5da41", func := "loop.example/g00973/laws.FnExactStampOrder", spec := "fnExactStampOrder", apart := false }
def FnExactStampOrderSaid : Prop := fnExactStampOrderRow.holds Try.pinned (OpenSpec.ofChange fnExactStampOrderSpec)

/-- ITS FALSE NEIGHBOUR: 'it returns false'. Refute it at one input. -/
def fnExactStampOrderWrong : ChangeSpec := { name := "fnExactStampOrder", fn := fun _ => fun
  | [d1, d2] => { results := [.lit (.bool false)], args := [d1, d2] }
  | _ => none }
def FnExactStampOrderWrongFalsely : Prop := fnExactStampOrderRow.holds Try.pinned (OpenSpec.ofChange fnExactStampOrderWrong)

/-- 'laws.FnExactAhead': WHATEVER THE INPUT: true; the input reads as it did. -/
def fnExactAheadSpec : ChangeSpec := { name := "fnExactAhead", fn := fun _ => fun
  | [d1, d2] => { results := [.lit (.bool true)], args := [d1, d2] }
  | _ => none }
def fnExactAheadRow : OpenClaim := { program := "ytlgbpmoehaealaa", sum := "26d061e18372e814f960ed938c542db11e42c12a7b57bf0ff0d251c2d7d5da41", func := "loop.example/g00973/laws.FnExactAhead", spec := "fnExactAhead", unfollowed := true, recurses := true, apart := false }
def FnExactAheadSaid : Prop := fnExactAheadRow.holds Try.pinned (OpenSpec.ofChange fnExactAheadSpec)

/-- ITS FALSE NEIGHBOUR: 'it returns false'. Refute it at one input. -/
def fnExactAheadWrong : ChangeSpec := { name := "fnExactAhead", fn := fun _ => fun
  | [d1, d2] => { results := [.lit (.bool false)], args := [d1, d2] }
  | _ => none }
def FnExactAheadWrongFalsely : Prop := fnExactAheadRow.holds Try.pinned (OpenSpec.ofChange fnExactAheadWrong)

/-- 'laws.FnExactFrontLeq': WHATEVER THE INPUT: true; the input reads as it did. -/
def fnExactFrontLeqSpec : ChangeSpec := { name := "fnExactFrontLeq", fn := fun _ => fun
  | [d1, d2] => { results := [.lit (.bool true)], args := [d1, d2] }
  | _ => none }
def fnExactFrontLeqRow : OpenClaim := { program := "ytlgbpmoehaealaa", sum := "26d061e18372e814f960ed938c542db11e42c12a7b57bf0ff0d251c2d7d5da41", func := "loop.example/g00973/laws.FnExactFrontLeq", spec := "fnExactFrontLeq", unfollowed := true, recurses := true, apart := false }
def FnExactFrontLeqSaid : Prop := fnExactFrontLeqRow.holds Try.pinned (OpenSpec.ofChange fnExactFrontLeqSpec)

/-- ITS FALSE NEIGHBOUR: 'it returns false'. Refute it at one input. -/
def fnExactFrontLeqWrong : ChangeSpec := { name := "fnExactFrontLeq", fn := fun _ => fun
  | [d1, d2] => { results := [.lit (.bool false)], args := [d1, d2] }
  | _ => none }
def FnExactFrontLeqWrongFalsely : Prop := fnExactFrontLeqRow.holds Try.pinned (OpenSpec.ofChange fnExactFrontLeqWrong)

/-- 'laws.FnExactRecordOrder': WHATEVER THE INPUT: true; the input reads as it did. -/
def fnExactRecordOrderSpec : ChangeSpec := { name := "fnExactRecordOrder", fn := fun _ => fun
  | [d1, d2] => { results := [.lit (.bool true)], args := [d1, d2] }
  | _ => none }
def fnExactRecordOrderRow : OpenClaim := { program := "ytlgbpmoehaealaa", sum := "26d061e18372e814f960ed938c542db11e42c12a7b57bf0ff0d251c2d7d5da41", func := "loop.example/g00973/laws.FnExactRecordOrder", spec := "fnExactRecordOrder", apart := false }
def FnExactRecordOrderSaid : Prop := fnExactRecordOrderRow.holds Try.pinned (OpenSpec.ofChange fnExactRecordOrderSpec)

/-- ITS FALSE NEIGHBOUR: 'it returns false'. Refute it at one input. -/
def fnExactRecordOrderWrong : ChangeSpec := { name := "fnExactRecordOrder", fn := fun _ => fun
  | [d1, d2] => { results := [.lit (.bool false)], args := [d1, d2] }
  | _ => none }
def FnExactRecordOrderWrongFalsely : Prop := fnExactRecordOrderRow.holds Try.pinned (OpenSpec.ofChange fnExactRecordOrderWrong)

/- THE SECOND FORM. 'bulk': how many values and letters a reading holds, each counted each time it is reached (what is shared counts as often as it is met; a slice's spare places count too). A statement '..UptoSaid' is the law's where the arguments, and the package variables that the reading takes, are together of bulk at most 1048576: NARROWER than '..Said'. Prove '..Said' where nothing that the law and all that it calls make is longer than what came in: it says more and counts as full. Else prove '..UptoSaid'. A law counts once. -/
mutual
def uptoBulk {H : Type} : DataW H → Nat
  | .lit (.string bytes) => bytes.length + 1
  | .lit _ => 1
  | .nil => 1
  | .ptr d => uptoBulk d + 1
  | .slice elems spare => uptoBulkAll elems + uptoBulkAll spare + 1
  | .agg parts => uptoBulkAll parts + 1
  | .iface _ d => uptoBulk d + 1
  | .map entries => uptoBulkEntries entries + 1
  | .held _ => 1
def uptoBulkAll {H : Type} : List (DataW H) → Nat
  | [] => 0
  | d :: r => uptoBulk d + uptoBulkAll r
def uptoBulkEntries {H : Type} : List (Lit × DataW H) → Nat
  | [] => 0
  | x :: r => uptoBulkEntry x + uptoBulkEntries r
def uptoBulkEntry {H : Type} : Lit × DataW H → Nat
  | (.string bytes, d) => bytes.length + uptoBulk d + 1
  | (_, d) => uptoBulk d + 1
 end
def uptoSmall : (H : Type) → List (DataW H) → Bool := fun _ ds => decide (uptoBulkAll ds ≤ 1048576)
def OpenSpec.upto (s : _root_.Go.ChangeSpec) : _root_.Go.OpenSpec := { _root_.Go.OpenSpec.ofChange s with cond := some uptoSmall }

/-- 'laws.FnExactEpochOver', WHERE WHAT IT READS IS OF BULK AT MOST 1048576: true; the input reads as it did. -/
def fnExactEpochOverUptoRow : OpenClaim := { program := "ytlgbpmoehaealaa", sum := "26d061e18372e814f960ed938c542db11e42c12a7b57bf0ff0d251c2d7d5da41", func := "loop.example/g00973/laws.FnExactEpochOver", spec := "fnExactEpochOver", unfollowed := true, recurses := true, apart := false, narrowed := true }
def FnExactEpochOverUptoSaid : Prop := fnExactEpochOverUptoRow.holds Try.pinned (OpenSpec.upto fnExactEpochOverSpec)

/-- 'laws.FnExactSameFront', WHERE WHAT IT READS IS OF BULK AT MOST 1048576: true; the input reads as it did. -/
def fnExactSameFrontUptoRow : OpenClaim := { program := "ytlgbpmoehaealaa", sum := "26d061e18372e814f960ed938c542db11e42c12a7b57bf0ff0d251c2d7d5da41", func := "loop.example/g00973/laws.FnExactSameFront", spec := "fnExactSameFront", apart := false, narrowed := true }
def FnExactSameFrontUptoSaid : Prop := fnExactSameFrontUptoRow.holds Try.pinned (OpenSpec.upto fnExactSameFrontSpec)

/-- 'laws.FnExactStampOrder', WHERE WHAT IT READS IS OF BULK AT MOST 1048576: true; the input reads as it did. -/
def fnExactStampOrderUptoRow : OpenClaim := { program := "ytlgbpmoehaealaa", sum := "26d061e18372e814f960ed938c542db11e42c12a7b57bf0ff0d251c2d7d5da41", func := "loop.example/g00973/laws.FnExactStampOrder", spec := "fnExactStampOrder", apart := false, narrowed := true }
def FnExactStampOrderUptoSaid : Prop := fnExactStampOrderUptoRow.holds Try.pinned (OpenSpec.upto fnExactStampOrderSpec)

/-- 'laws.FnExactAhead', WHERE WHAT IT READS IS OF BULK AT MOST 1048576: true; the input reads as it did. -/
def fnExactAheadUptoRow : OpenClaim := { program := "ytlgbpmoehaealaa", sum := "26d061e18372e814f960ed938c542db11e42c12a7b57bf0ff0d251c2d7d5da41", func := "loop.example/g00973/laws.FnExactAhead", spec := "fnExactAhead", unfollowed := true, recurses := true, apart := false, narrowed := true }
def FnExactAheadUptoSaid : Prop := fnExactAheadUptoRow.holds Try.pinned (OpenSpec.upto fnExactAheadSpec)

/-- 'laws.FnExactFrontLeq', WHERE WHAT IT READS IS OF BULK AT MOST 1048576: true; the input reads as it did. -/
def fnExactFrontLeqUptoRow : OpenClaim := { program := "ytlgbpmoehaealaa", sum := "26d061e18372e814f960ed938c542db11e42c12a7b57bf0ff0d251c2d7d5da41", func := "loop.example/g00973/laws.FnExactFrontLeq", spec := "fnExactFrontLeq", unfollowed := true, recurses := true, apart := false, narrowed := true }
def FnExactFrontLeqUptoSaid : Prop := fnExactFrontLeqUptoRow.holds Try.pinned (OpenSpec.upto fnExactFrontLeqSpec)

/-- 'laws.FnExactRecordOrder', WHERE WHAT IT READS IS OF BULK AT MOST 1048576: true; the input reads as it did. -/
def fnExactRecordOrderUptoRow : OpenClaim := { program := "ytlgbpmoehaealaa", sum := "26d061e18372e814f960ed938c542db11e42c12a7b57bf0ff0d251c2d7d5da41", func := "loop.example/g00973/laws.FnExactRecordOrder", spec := "fnExactRecordOrder", apart := false, narrowed := true }
def FnExactRecordOrderUptoSaid : Prop := fnExactRecordOrderUptoRow.holds Try.pinned (OpenSpec.upto fnExactRecordOrderSpec)

end Rows
end Go.Proofs.Ytlgbpmoehaealaa
