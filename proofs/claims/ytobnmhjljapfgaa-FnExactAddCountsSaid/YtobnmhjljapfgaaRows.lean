/-
  No cell of these rows narrows 'for every input' (looked for: loops, veiled, ifaces, maps, wideKeys, modest, calm, conditions, laid).
  DERIVED. THE GIVEN ROWS OF THIS SEAT. 6 by the template 'for every input the law returns true; each argument reads behind the call as it read before'; 0 by the template 'total and deterministic' (their statements: YtobnmhjljapfgaaTotals.lean).
  GIVEN WITH THE SEED: the statements are not yours to turn. If you find one false, say at which input.
  Laid BY PROGRAM, IN A SANDBOX (cutbox-rows.mjs): the forced cells as the released guide's own fill.sh prints them over the translation c6bf283455104e31… (all of the seat's roots in one cut). By AI agents, Wed Nov 11 2026. No macro, syntax, notation, axiom, sorry.
-/
import Derived.Test.YtobnmhjljapfgaaChecked
import GoSem.Claim
import GoSem.ClaimJoined
import GoSem.ClaimMapViews
import Derived.JoinedTies
import Derived.KernelRfl
namespace Go.Proofs.Ytobnmhjljapfgaa
/- THE CELL 'sum', in the pinned program and in every row, IS THE sha256 OF THE DUMP (.gsa) THAT YtobnmhjljapfgaaProg.lean LOADS. Nothing in Lean hashes anything: it is a label: what it is worth is what the hold of that sum in a sandbox is worth. -/
noncomputable def Try.pinned : Pinned := { name := "ytobnmhjljapfgaa", sum := "c6bf283455104e310678f6c376e5cf038358d630d2f366eb588257ddd531d069", checked := Try.checked }
namespace Rows
def none {H : Type} : Left H := { results := [], args := [] }

/-- 'laws.FnExactTotalCount': WHATEVER THE INPUT: true; the input reads as it did. -/
def fnExactTotalCountSpec : ChangeSpec := { name := "fnExactTotalCount", fn := fun _ => fun
  | [d] => { results := [.lit (.bool true)], args := [d] }
  | _ => none }
def fnExactTotalCountRow : OpenClaim := { program := "ytobnmhjljapfgaa", sum := "c6bf283455104e310678f6c376e5cf038358d630d2f366eb588257ddd531d069", func := "loop.example/g00973/laws.FnExactTotalCount", spec := "fnExactTotalCount", apart := false }
def FnExactTotalCountSaid : Prop := fnExactTotalCountRow.holds Try.pinned (OpenSpec.ofChange fnExactTotalCountSpec)

/-- ITS FALSE NEIGHBOUR: 'it returns false'. Refute it at one input. -/
def fnExactTotalCountWrong : ChangeSpec := { name := "fnExactTotalCount", fn := fun _ => fun
  | [d] => { results := [.lit (.bool false)], args := [d] }
  | _ => none }
def FnExactTotalCountWrongFalsely : Prop := fnExactTotalCountRow.holds Try.pinned (OpenSpec.ofChange fnExactTotalCountWrong)

/-- 'laws.FnExactCountAt': WHATEVER THE INPUT: true; the input reads as it did. -/
def fnExactCountAtSpec : ChangeSpec := { name := "fnExactCountAt", fn := fun _ => fun
  | [d1, d2] => { results := [.lit (.bool true)], args := [d1, d2] }
  | _ => none }
def fnExactCountAtRow : OpenClaim := { program := "ytobnmhjljapfgaa", sum := "c6bf283455104e310678f6c376e5cf038358d630d2f366eb588257ddd531d069", func := "loop.example/g00973/laws.FnExactCountAt", spec := "fnExactCountAt", apart := false }
def FnExactCountAtSaid : Prop := fnExactCountAtRow.holds Try.pinned (OpenSpec.ofChange fnExactCountAtSpec)

/-- ITS FALSE NEIGHBOUR: 'it returns false'. Refute it at one input. -/
def fnExactCountAtWrong : ChangeSpec := { name := "fnExactCountAt", fn := fun _ => fun
  | [d1, d2] => { results := [.lit (.bool false)], args := [d1, d2] }
  | _ => none }
def FnExactCountAtWrongFalsely : Prop := fnExactCountAtRow.holds Try.pinned (OpenSpec.ofChange fnExactCountAtWrong)

/-- 'laws.FnExactEpochCount': WHATEVER THE INPUT: true; the input reads as it did. -/
def fnExactEpochCountSpec : ChangeSpec := { name := "fnExactEpochCount", fn := fun _ => fun
  | [d1, d2] => { results := [.lit (.bool true)], args := [d1, d2] }
  | _ => none }
def fnExactEpochCountRow : OpenClaim := { program := "ytobnmhjljapfgaa", sum := "c6bf283455104e310678f6c376e5cf038358d630d2f366eb588257ddd531d069", func := "loop.example/g00973/laws.FnExactEpochCount", spec := "fnExactEpochCount", apart := false }
def FnExactEpochCountSaid : Prop := fnExactEpochCountRow.holds Try.pinned (OpenSpec.ofChange fnExactEpochCountSpec)

/-- ITS FALSE NEIGHBOUR: 'it returns false'. Refute it at one input. -/
def fnExactEpochCountWrong : ChangeSpec := { name := "fnExactEpochCount", fn := fun _ => fun
  | [d1, d2] => { results := [.lit (.bool false)], args := [d1, d2] }
  | _ => none }
def FnExactEpochCountWrongFalsely : Prop := fnExactEpochCountRow.holds Try.pinned (OpenSpec.ofChange fnExactEpochCountWrong)

/-- 'laws.FnExactCountsOk': WHATEVER THE INPUT: true; the input reads as it did. -/
def fnExactCountsOkSpec : ChangeSpec := { name := "fnExactCountsOk", fn := fun _ => fun
  | [d] => { results := [.lit (.bool true)], args := [d] }
  | _ => none }
def fnExactCountsOkRow : OpenClaim := { program := "ytobnmhjljapfgaa", sum := "c6bf283455104e310678f6c376e5cf038358d630d2f366eb588257ddd531d069", func := "loop.example/g00973/laws.FnExactCountsOk", spec := "fnExactCountsOk", apart := false }
def FnExactCountsOkSaid : Prop := fnExactCountsOkRow.holds Try.pinned (OpenSpec.ofChange fnExactCountsOkSpec)

/-- ITS FALSE NEIGHBOUR: 'it returns false'. Refute it at one input. -/
def fnExactCountsOkWrong : ChangeSpec := { name := "fnExactCountsOk", fn := fun _ => fun
  | [d] => { results := [.lit (.bool false)], args := [d] }
  | _ => none }
def FnExactCountsOkWrongFalsely : Prop := fnExactCountsOkRow.holds Try.pinned (OpenSpec.ofChange fnExactCountsOkWrong)

/-- 'laws.FnExactAdjust': WHATEVER THE INPUT: true; the input reads as it did. -/
def fnExactAdjustSpec : ChangeSpec := { name := "fnExactAdjust", fn := fun _ => fun
  | [d1, d2, d3] => { results := [.lit (.bool true)], args := [d1, d2, d3] }
  | _ => none }
def fnExactAdjustRow : OpenClaim := { program := "ytobnmhjljapfgaa", sum := "c6bf283455104e310678f6c376e5cf038358d630d2f366eb588257ddd531d069", func := "loop.example/g00973/laws.FnExactAdjust", spec := "fnExactAdjust", apart := false }
def FnExactAdjustSaid : Prop := fnExactAdjustRow.holds Try.pinned (OpenSpec.ofChange fnExactAdjustSpec)

/-- ITS FALSE NEIGHBOUR: 'it returns false'. Refute it at one input. -/
def fnExactAdjustWrong : ChangeSpec := { name := "fnExactAdjust", fn := fun _ => fun
  | [d1, d2, d3] => { results := [.lit (.bool false)], args := [d1, d2, d3] }
  | _ => none }
def FnExactAdjustWrongFalsely : Prop := fnExactAdjustRow.holds Try.pinned (OpenSpec.ofChange fnExactAdjustWrong)

/-- 'laws.FnExactAddCounts': WHATEVER THE INPUT: true; the input reads as it did. -/
def fnExactAddCountsSpec : ChangeSpec := { name := "fnExactAddCounts", fn := fun _ => fun
  | [d1, d2] => { results := [.lit (.bool true)], args := [d1, d2] }
  | _ => none }
def fnExactAddCountsRow : OpenClaim := { program := "ytobnmhjljapfgaa", sum := "c6bf283455104e310678f6c376e5cf038358d630d2f366eb588257ddd531d069", func := "loop.example/g00973/laws.FnExactAddCounts", spec := "fnExactAddCounts", apart := false }
def FnExactAddCountsSaid : Prop := fnExactAddCountsRow.holds Try.pinned (OpenSpec.ofChange fnExactAddCountsSpec)

/-- ITS FALSE NEIGHBOUR: 'it returns false'. Refute it at one input. -/
def fnExactAddCountsWrong : ChangeSpec := { name := "fnExactAddCounts", fn := fun _ => fun
  | [d1, d2] => { results := [.lit (.bool false)], args := [d1, d2] }
  | _ => none }
def FnExactAddCountsWrongFalsely : Prop := fnExactAddCountsRow.holds Try.pinned (OpenSpec.ofChange fnExactAddCountsWrong)

/- THE SECOND FORM. 'bulk': how many values and letters a reading holds, each counted each time it is reached (what is shared counts as often as it is met; a slice's spare places count too). A statement '..UptoSaid' is the law's where the arguments, and the package variables that the reading takes, are together of bulk at most 1048576: NARROWER than '..Said'. Prove '..Said' where nothing that the law and all that it calls make is longer than what came in: it says more and counts as full. Else prove '..UptoSaid'. A law counts once. -/
mutual
def uptoBulk {H : Type} : DataW H → Nat
  | .lit (.string bytes) => bytes.length + 1
  | .lit _ => 1
  | .nil => 1
  | .ptr d => uptoBulk d + 1
  | .slice elems spare => uptoBulkAll elems + uptoBulkAll spare + 1
  | .agg parts => uptoBulkAll parts + 1
  | .iface _ d => uptoBulk d + 1
  | .map entries => uptoBulkEntries entries + 1
  | .held _ => 1
def uptoBulkAll {H : Type} : List (DataW H) → Nat
  | [] => 0
  | d :: r => uptoBulk d + uptoBulkAll r
def uptoBulkEntries {H : Type} : List (Lit × DataW H) → Nat
  | [] => 0
  | x :: r => uptoBulkEntry x + uptoBulkEntries r
def uptoBulkEntry {H : Type} : Lit × DataW H → Nat
  | (.string bytes, d) => bytes.length + uptoBulk d + 1
  | (_, d) => uptoBulk d + 1
 end
def uptoSmall : (H : Type) → List (DataW H) → Bool := fun _ ds => decide (uptoBulkAll ds ≤ 1048576)
def OpenSpec.upto (s : _root_.Go.ChangeSpec) : _root_.Go.OpenSpec := { _root_.Go.OpenSpec.ofChange s with cond := some uptoSmall }

/-- 'laws.FnExactTotalCount', WHERE WHAT IT READS IS OF BULK AT MOST 1048576: true; the input reads as it did. -/
def fnExactTotalCountUptoRow : OpenClaim := { program := "ytobnmhjljapfgaa", sum := "c6bf283455104e310678f6c376e5cf038358d630d2f366eb588257ddd531d069", func := "loop.example/g00973/laws.FnExactTotalCount", spec := "fnExactTotalCount", apart := false, narrowed := true }
def FnExactTotalCountUptoSaid : Prop := fnExactTotalCountUptoRow.holds Try.pinned (OpenSpec.upto fnExactTotalCountSpec)

/-- 'laws.FnExactCountAt', WHERE WHAT IT READS IS OF BULK AT MOST 1048576: true; the input reads as it did. -/
def fnExactCountAtUptoRow : OpenClaim := { program := "ytobnmhjljapfgaa", sum := "c6bf283455104e310678f6c376e5cf038358d630d2f366eb588257ddd531d069", func := "loop.example/g00973/laws.FnExactCountAt", spec := "fnExactCountAt", apart := false, narrowed := true }
def FnExactCountAtUptoSaid : Prop := fnExactCountAtUptoRow.holds Try.pinned (OpenSpec.upto fnExactCountAtSpec)

/-- 'laws.FnExactEpochCount', WHERE WHAT IT READS IS OF BULK AT MOST 1048576: true; the input reads as it did. -/
def fnExactEpochCountUptoRow : OpenClaim := { program := "ytobnmhjljapfgaa", sum := "c6bf283455104e310678f6c376e5cf038358d630d2f366eb588257ddd531d069", func := "loop.example/g00973/laws.FnExactEpochCount", spec := "fnExactEpochCount", apart := false, narrowed := true }
def FnExactEpochCountUptoSaid : Prop := fnExactEpochCountUptoRow.holds Try.pinned (OpenSpec.upto fnExactEpochCountSpec)

/-- 'laws.FnExactCountsOk', WHERE WHAT IT READS IS OF BULK AT MOST 1048576: true; the input reads as it did. -/
def fnExactCountsOkUptoRow : OpenClaim := { program := "ytobnmhjljapfgaa", sum := "c6bf283455104e310678f6c376e5cf038358d630d2f366eb588257ddd531d069", func := "loop.example/g00973/laws.FnExactCountsOk", spec := "fnExactCountsOk", apart := false, narrowed := true }
def FnExactCountsOkUptoSaid : Prop := fnExactCountsOkUptoRow.holds Try.pinned (OpenSpec.upto fnExactCountsOkSpec)

/-- 'laws.FnExactAdjust', WHERE WHAT IT READS IS OF BULK AT MOST 1048576: true; the input reads as it did. -/
def fnExactAdjustUptoRow : OpenClaim := { program := "ytobnmhjljapfgaa", sum := "c6bf283455104e310678f6c376e5cf038358d630d2f366eb588257ddd531d069", func := "loop.example/g00973/laws.FnExactAdjust", spec := "fnExactAdjust", apart := false, narrowed := true }
def FnExactAdjustUptoSaid : Prop := fnExactAdjustUptoRow.holds Try.pinned (OpenSpec.upto fnExactAdjustSpec)

/-- 'laws.FnExactAddCounts', WHERE WHAT IT READS IS OF BULK AT MOST 1048576: true; the input reads as it did. -/
def fnExactAddCountsUptoRow : OpenClaim := { program := "ytobnmhjljapfgaa", sum := "c6bf283455104e310678f6c376e5cf038358d630d2f366eb588257ddd531d069", func := "loop.example/g00973/laws.FnExactAddCounts", spec := "fnExactAddCounts", apart := false, narrowed := true }
def FnExactAddCountsUptoSaid : Prop := fnExactAddCountsUptoRow.holds Try.pinned (OpenSpec.upto fnExactAddCountsSpec)

end Rows
end Go.Proofs.Ytobnmhjljapfgaa
