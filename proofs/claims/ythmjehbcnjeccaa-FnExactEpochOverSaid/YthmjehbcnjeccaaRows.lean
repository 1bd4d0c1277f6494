/-
  No cell of these rows narrows 'for every input' (looked for: loops, veiled, ifaces, maps, wideKeys, modest, calm, conditions, laid).
  DERIVED. THE GIVEN ROWS OF THIS SEAT. 22 by the template 'for every input the law returns true; each argument reads behind the call as it read before'; 0 by the template 'total and deterministic' (their statements: YthmjehbcnjeccaaTotals.lean).
  GIVEN WITH THE SEED: the statements are not yours to turn. If you find one false, say at which input.
  Laid BY PROGRAM, IN A SANDBOX (cutbox-rows.mjs): the forced cells as the released guide's own fill.sh prints them over the translation 29596f59f2ea885d… (all of the seat's roots in one cut). By AI agents, Wed Nov 11 2026. No macro, syntax, notation, axiom, sorry.
-/
import Derived.Test.YthmjehbcnjeccaaChecked
import GoSem.Claim
import GoSem.ClaimJoined
import GoSem.ClaimMapViews
import Derived.JoinedTies
import Derived.KernelRfl
namespace Go.Proofs.Ythmjehbcnjeccaa
/- THE CELL 'sum', in the pinned program and in every row, IS THE sha256 OF THE DUMP (.gsa) THAT YthmjehbcnjeccaaProg.lean LOADS. Nothing in Lean hashes anything: it is a label: what it is worth is what the hold of that sum in a sandbox is worth. -/
noncomputable def Try.pinned : Pinned := { name := "ythmjehbcnjeccaa", sum := "29596f59f2ea885d11e9393822096917de24b2322b20a76b6fbc61168a6902b6", checked := Try.checked }
namespace Rows
def none {H : Type} : Left H := { results := [], args := [] }

/-- 'laws.FnExactEpochOver': WHATEVER THE INPUT: true; the input reads as it did. -/
def fnExactEpochOverSpec : ChangeSpec := { name := "fnExactEpochOver", fn := fun _ => fun
  | [d1, d2] => { results := [.lit (.bool true)], args := [d1, d2] }
  | _ => none }
def fnExactEpochOverRow : OpenClaim := { program := "ythmjehbcnjeccaa", sum := "29596f59f2ea885d11e9393822096917de24b2322b20a76b6fbc61168a6902b6", func := "loop.example/g00973/laws.FnExactEpochOver", spec := "fnExactEpochOver", unfollowed := true, recurses := true, apart := false }
def FnExactEpochOverSaid : Prop := fnExactEpochOverRow.holds Try.pinned (OpenSpec.ofChange fnExactEpochOverSpec)

/-- ITS FALSE NEIGHBOUR: 'it returns false'. Refute it at one input. -/
def fnExactEpochOverWrong : ChangeSpec := { name := "fnExactEpochOver", fn := fun _ => fun
  | [d1, d2] => { results := [.lit (.bool false)], args := [d1, d2] }
  | _ => none }
def FnExactEpochOverWrongFalsely : Prop := fnExactEpochOverRow.holds Try.pinned (OpenSpec.ofChange fnExactEpochOverWrong)

/-- 'laws.FnExactSameFront': WHATEVER THE INPUT: true; the input reads as it did. -/
def fnExactSameFrontSpec : ChangeSpec := { name := "fnExactSameFront", fn := fun _ => fun
  | [d1, d2] => { results := [.lit (.bool true)], args := [d1, d2] }
  | _ => none }
def fnExactSameFrontRow : OpenClaim := { program := "ythmjehbcnjeccaa", sum := "29596f59f2ea885d11e9393822096917de24b2322b20a76b6fbc61168a6902b6", func := "loop.example/g00973/laws.FnExactSameFront", spec := "fnExactSameFront", apart := false }
def FnExactSameFrontSaid : Prop := fnExactSameFrontRow.holds Try.pinned (OpenSpec.ofChange fnExactSameFrontSpec)

/-- ITS FALSE NEIGHBOUR: 'it returns false'. Refute it at one input. -/
def fnExactSameFrontWrong : ChangeSpec := { name := "fnExactSameFront", fn := fun _ => fun
  | [d1, d2] => { results := [.lit (.bool false)], args := [d1, d2] }
  | _ => none }
def FnExactSameFrontWrongFalsely : Prop := fnExactSameFrontRow.holds Try.pinned (OpenSpec.ofChange fnExactSameFrontWrong)

/-- 'laws.FnExactStampOrder': WHATEVER THE INPUT: true; the input reads as it did. -/
def fnExactStampOrderSpec : ChangeSpec := { name := "fnExactStampOrder", fn := fun _ => fun
  | [d1, d2] => { results := [.lit (.bool true)], args := [d1, d2] }
  | _ => none }
def fnExactStampOrderRow : OpenClaim := { program := "ythmjehbcnjeccaa", sum := "29596f59f2ea885d11e9393822096917de24b2322b20a76b6fbc61168a6902b6", func := "loop.example/g00973/laws.FnExactStampOrder", spec := "fnExactStampOrder", apart := false }
def FnExactStampOrderSaid : Prop := fnExactStampOrderRow.holds Try.pinned (OpenSpec.ofChange fnExactStampOrderSpec)

/-- ITS FALSE NEIGHBOUR: 'it returns false'. Refute it at one input. -/
def fnExactStampOrderWrong : ChangeSpec := { name := "fnExactStampOrder", fn := fun _ => fun
  | [d1, d2] => { results := [.lit (.bool false)], args := [d1, d2] }
  | _ => none }
def FnExactStampOrderWrongFalsely : Prop := fnExactStampOrderRow.holds Try.pinned (OpenSpec.ofChange fnExactStampOrderWrong)

/-- 'laws.FnExactAhead': WHATEVER THE INPUT: true; the input reads as it did. -/
def fnExactAheadSpec : ChangeSpec := { name := "fnExactAhead", fn := fun _ => fun
  | [d1, d2] => { results := [.lit (.bool true)], args := [d1, d2] }
  | _ => none }
def fnExactAheadRow : OpenClaim := { program := "ythmjehbcnjeccaa", sum := "29596f59f2ea885d11e9393822096917de24b2322b20a76b6fbc61168a6902b6", func := "loop.example/g00973/laws.FnExactAhead", spec := "fnExactAhead", unfollowed := true, recurses := true, apart := false }
def FnExactAheadSaid : Prop := fnExactAheadRow.holds Try.pinned (OpenSpec.ofChange fnExactAheadSpec)

/-- ITS FALSE NEIGHBOUR: 'it returns false'. Refute it at one input. -/
def fnExactAheadWrong : ChangeSpec := { name := "fnExactAhead", fn := fun _ => fun
  | [d1, d2] => { results := [.lit (.bool false)], args := [d1, d2] }
  | _ => none }
def FnExactAheadWrongFalsely : Prop := fnExactAheadRow.holds Try.pinned (OpenSpec.ofChange fnExactAheadWrong)

/-- 'laws.FnExactTotalCount': WHATEVER THE INPUT: true; the input reads as it did. -/
def fnExactTotalCountSpec : ChangeSpec := { name := "fnExactTotalCount", fn := fun _ => fun
  | [d] => { results := [.lit (.bool true)], args := [d] }
  | _ => none }
def fnExactTotalCountRow : OpenClaim := { program := "ythmjehbcnjeccaa", sum := "29596f59f2ea885d11e9393822096917de24b2322b20a76b6fbc61168a6902b6", func := "loop.example/g00973/laws.FnExactTotalCount", spec := "fnExactTotalCount", apart := false }
def FnExactTotalCountSaid : Prop := fnExactTotalCountRow.holds Try.pinned (OpenSpec.ofChange fnExactTotalCountSpec)

/-- ITS FALSE NEIGHBOUR: 'it returns false'. Refute it at one input. -/
def fnExactTotalCountWrong : ChangeSpec := { name := "fnExactTotalCount", fn := fun _ => fun
  | [d] => { results := [.lit (.bool false)], args := [d] }
  | _ => none }
def FnExactTotalCountWrongFalsely : Prop := fnExactTotalCountRow.holds Try.pinned (OpenSpec.ofChange fnExactTotalCountWrong)

/-- 'laws.FnExactCountAt': WHATEVER THE INPUT: true; the input reads as it did. -/
def fnExactCountAtSpec : ChangeSpec := { name := "fnExactCountAt", fn := fun _ => fun
  | [d1, d2] => { results := [.lit (.bool true)], args := [d1, d2] }
  | _ => none }
def fnExactCountAtRow : OpenClaim := { program := "ythmjehbcnjeccaa", sum := "29596f59f2ea885d11e9393822096917de24b2322b20a76b6fbc61168a6902b6", func := "loop.example/g00973/laws.FnExactCountAt", spec := "fnExactCountAt", apart := false }
def FnExactCountAtSaid : Prop := fnExactCountAtRow.holds Try.pinned (OpenSpec.ofChange fnExactCountAtSpec)

/-- ITS FALSE NEIGHBOUR: 'it returns false'. Refute it at one input. -/
def fnExactCountAtWrong : ChangeSpec := { name := "fnExactCountAt", fn := fun _ => fun
  | [d1, d2] => { results := [.lit (.bool false)], args := [d1, d2] }
  | _ => none }
def FnExactCountAtWrongFalsely : Prop := fnExactCountAtRow.holds Try.pinned (OpenSpec.ofChange fnExactCountAtWrong)

/-- 'laws.FnExactEpochCount': WHATEVER THE INPUT: true; the input reads as it did. -/
def fnExactEpochCountSpec : ChangeSpec := { name := "fnExactEpochCount", fn := fun _ => fun
  | [d1, d2] => { results := [.lit (.bool true)], args := [d1, d2] }
  | _ => none }
def fnExactEpochCountRow : OpenClaim := { program := "ythmjehbcnjeccaa", sum := "29596f59f2ea885d11e9393822096917de24b2322b20a76b6fbc61168a6902b6", func := "loop.example/g00973/laws.FnExactEpochCount", spec := "fnExactEpochCount", apart := false }
def FnExactEpochCountSaid : Prop := fnExactEpochCountRow.holds Try.pinned (OpenSpec.ofChange fnExactEpochCountSpec)

/-- ITS FALSE NEIGHBOUR: 'it returns false'. Refute it at one input. -/
def fnExactEpochCountWrong : ChangeSpec := { name := "fnExactEpochCount", fn := fun _ => fun
  | [d1, d2] => { results := [.lit (.bool false)], args := [d1, d2] }
  | _ => none }
def FnExactEpochCountWrongFalsely : Prop := fnExactEpochCountRow.holds Try.pinned (OpenSpec.ofChange fnExactEpochCountWrong)

/-- 'laws.FnExactFrontLeq': WHATEVER THE INPUT: true; the input reads as it did. -/
def fnExactFrontLeqSpec : ChangeSpec := { name := "fnExactFrontLeq", fn := fun _ => fun
  | [d1, d2] => { results := [.lit (.bool true)], args := [d1, d2] }
  | _ => none }
def fnExactFrontLeqRow : OpenClaim := { program := "ythmjehbcnjeccaa", sum := "29596f59f2ea885d11e9393822096917de24b2322b20a76b6fbc61168a6902b6", func := "loop.example/g00973/laws.FnExactFrontLeq", spec := "fnExactFrontLeq", unfollowed := true, recurses := true, apart := false }
def FnExactFrontLeqSaid : Prop := fnExactFrontLeqRow.holds Try.pinned (OpenSpec.ofChange fnExactFrontLeqSpec)

/-- ITS FALSE NEIGHBOUR: 'it returns false'. Refute it at one input. -/
def fnExactFrontLeqWrong : ChangeSpec := { name := "fnExactFrontLeq", fn := fun _ => fun
  | [d1, d2] => { results := [.lit (.bool false)], args := [d1, d2] }
  | _ => none }
def FnExactFrontLeqWrongFalsely : Prop := fnExactFrontLeqRow.holds Try.pinned (OpenSpec.ofChange fnExactFrontLeqWrong)

/-- 'laws.FnExactRecordOrder': WHATEVER THE INPUT: true; the input reads as it did. -/
def fnExactRecordOrderSpec : ChangeSpec := { name := "fnExactRecordOrder", fn := fun _ => fun
  | [d1, d2] => { results := [.lit (.bool true)], args := [d1, d2] }
  | _ => none }
def fnExactRecordOrderRow : OpenClaim := { program := "ythmjehbcnjeccaa", sum := "29596f59f2ea885d11e9393822096917de24b2322b20a76b6fbc61168a6902b6", func := "loop.example/g00973/laws.FnExactRecordOrder", spec := "fnExactRecordOrder", apart := false }
def FnExactRecordOrderSaid : Prop := fnExactRecordOrderRow.holds Try.pinned (OpenSpec.ofChange fnExactRecordOrderSpec)

/-- ITS FALSE NEIGHBOUR: 'it returns false'. Refute it at one input. -/
def fnExactRecordOrderWrong : ChangeSpec := { name := "fnExactRecordOrder", fn := fun _ => fun
  | [d1, d2] => { results := [.lit (.bool false)], args := [d1, d2] }
  | _ => none }
def FnExactRecordOrderWrongFalsely : Prop := fnExactRecordOrderRow.holds Try.pinned (OpenSpec.ofChange fnExactRecordOrderWrong)

/-- 'laws.FnExactNodeOk': WHATEVER THE INPUT: true; the input reads as it did. -/
def fnExactNodeOkSpec : ChangeSpec := { name := "fnExactNodeOk", fn := fun _ => fun
  | [d] => { results := [.lit (.bool true)], args := [d] }
  | _ => none }
def fnExactNodeOkRow : OpenClaim := { program := "ythmjehbcnjeccaa", sum := "29596f59f2ea885d11e9393822096917de24b2322b20a76b6fbc61168a6902b6", func := "loop.example/g00973/laws.FnExactNodeOk", spec := "fnExactNodeOk", apart := false }
def FnExactNodeOkSaid : Prop := fnExactNodeOkRow.holds Try.pinned (OpenSpec.ofChange fnExactNodeOkSpec)

/-- ITS FALSE NEIGHBOUR: 'it returns false'. Refute it at one input. -/
def fnExactNodeOkWrong : ChangeSpec := { name := "fnExactNodeOk", fn := fun _ => fun
  | [d] => { results := [.lit (.bool false)], args := [d] }
  | _ => none }
def FnExactNodeOkWrongFalsely : Prop := fnExactNodeOkRow.holds Try.pinned (OpenSpec.ofChange fnExactNodeOkWrong)

/-- 'laws.FnExactOfEpoch': WHATEVER THE INPUT: true; the input reads as it did. -/
def fnExactOfEpochSpec : ChangeSpec := { name := "fnExactOfEpoch", fn := fun _ => fun
  | [d1, d2] => { results := [.lit (.bool true)], args := [d1, d2] }
  | _ => none }
def fnExactOfEpochRow : OpenClaim := { program := "ythmjehbcnjeccaa", sum := "29596f59f2ea885d11e9393822096917de24b2322b20a76b6fbc61168a6902b6", func := "loop.example/g00973/laws.FnExactOfEpoch", spec := "fnExactOfEpoch", apart := false }
def FnExactOfEpochSaid : Prop := fnExactOfEpochRow.holds Try.pinned (OpenSpec.ofChange fnExactOfEpochSpec)

/-- ITS FALSE NEIGHBOUR: 'it returns false'. Refute it at one input. -/
def fnExactOfEpochWrong : ChangeSpec := { name := "fnExactOfEpoch", fn := fun _ => fun
  | [d1, d2] => { results := [.lit (.bool false)], args := [d1, d2] }
  | _ => none }
def FnExactOfEpochWrongFalsely : Prop := fnExactOfEpochRow.holds Try.pinned (OpenSpec.ofChange fnExactOfEpochWrong)

/-- 'laws.FnExactInFlight': WHATEVER THE INPUT: true; the input reads as it did. -/
def fnExactInFlightSpec : ChangeSpec := { name := "fnExactInFlight", fn := fun _ => fun
  | [d1, d2] => { results := [.lit (.bool true)], args := [d1, d2] }
  | _ => none }
def fnExactInFlightRow : OpenClaim := { program := "ythmjehbcnjeccaa", sum := "29596f59f2ea885d11e9393822096917de24b2322b20a76b6fbc61168a6902b6", func := "loop.example/g00973/laws.FnExactInFlight", spec := "fnExactInFlight", apart := false }
def FnExactInFlightSaid : Prop := fnExactInFlightRow.holds Try.pinned (OpenSpec.ofChange fnExactInFlightSpec)

/-- ITS FALSE NEIGHBOUR: 'it returns false'. Refute it at one input. -/
def fnExactInFlightWrong : ChangeSpec := { name := "fnExactInFlight", fn := fun _ => fun
  | [d1, d2] => { results := [.lit (.bool false)], args := [d1, d2] }
  | _ => none }
def FnExactInFlightWrongFalsely : Prop := fnExactInFlightRow.holds Try.pinned (OpenSpec.ofChange fnExactInFlightWrong)

/-- 'laws.FnExactSameLink': WHATEVER THE INPUT: true; the input reads as it did. -/
def fnExactSameLinkSpec : ChangeSpec := { name := "fnExactSameLink", fn := fun _ => fun
  | [d1, d2] => { results := [.lit (.bool true)], args := [d1, d2] }
  | _ => none }
def fnExactSameLinkRow : OpenClaim := { program := "ythmjehbcnjeccaa", sum := "29596f59f2ea885d11e9393822096917de24b2322b20a76b6fbc61168a6902b6", func := "loop.example/g00973/laws.FnExactSameLink", spec := "fnExactSameLink", apart := false }
def FnExactSameLinkSaid : Prop := fnExactSameLinkRow.holds Try.pinned (OpenSpec.ofChange fnExactSameLinkSpec)

/-- ITS FALSE NEIGHBOUR: 'it returns false'. Refute it at one input. -/
def fnExactSameLinkWrong : ChangeSpec := { name := "fnExactSameLink", fn := fun _ => fun
  | [d1, d2] => { results := [.lit (.bool false)], args := [d1, d2] }
  | _ => none }
def FnExactSameLinkWrongFalsely : Prop := fnExactSameLinkRow.holds Try.pinned (OpenSpec.ofChange fnExactSameLinkWrong)

/-- 'laws.FnExactLinkNew': WHATEVER THE INPUT: true; the input reads as it did. -/
def fnExactLinkNewSpec : ChangeSpec := { name := "fnExactLinkNew", fn := fun _ => fun
  | [d] => { results := [.lit (.bool true)], args := [d] }
  | _ => none }
def fnExactLinkNewRow : OpenClaim := { program := "ythmjehbcnjeccaa", sum := "29596f59f2ea885d11e9393822096917de24b2322b20a76b6fbc61168a6902b6", func := "loop.example/g00973/laws.FnExactLinkNew", spec := "fnExactLinkNew", apart := false }
def FnExactLinkNewSaid : Prop := fnExactLinkNewRow.holds Try.pinned (OpenSpec.ofChange fnExactLinkNewSpec)

/-- ITS FALSE NEIGHBOUR: 'it returns false'. Refute it at one input. -/
def fnExactLinkNewWrong : ChangeSpec := { name := "fnExactLinkNew", fn := fun _ => fun
  | [d] => { results := [.lit (.bool false)], args := [d] }
  | _ => none }
def FnExactLinkNewWrongFalsely : Prop := fnExactLinkNewRow.holds Try.pinned (OpenSpec.ofChange fnExactLinkNewWrong)

/-- 'laws.FnExactCountsOk': WHATEVER THE INPUT: true; the input reads as it did. -/
def fnExactCountsOkSpec : ChangeSpec := { name := "fnExactCountsOk", fn := fun _ => fun
  | [d] => { results := [.lit (.bool true)], args := [d] }
  | _ => none }
def fnExactCountsOkRow : OpenClaim := { program := "ythmjehbcnjeccaa", sum := "29596f59f2ea885d11e9393822096917de24b2322b20a76b6fbc61168a6902b6", func := "loop.example/g00973/laws.FnExactCountsOk", spec := "fnExactCountsOk", apart := false }
def FnExactCountsOkSaid : Prop := fnExactCountsOkRow.holds Try.pinned (OpenSpec.ofChange fnExactCountsOkSpec)

/-- ITS FALSE NEIGHBOUR: 'it returns false'. Refute it at one input. -/
def fnExactCountsOkWrong : ChangeSpec := { name := "fnExactCountsOk", fn := fun _ => fun
  | [d] => { results := [.lit (.bool false)], args := [d] }
  | _ => none }
def FnExactCountsOkWrongFalsely : Prop := fnExactCountsOkRow.holds Try.pinned (OpenSpec.ofChange fnExactCountsOkWrong)

/-- 'laws.FnExactLinkOk': WHATEVER THE INPUT: true; the input reads as it did. -/
def fnExactLinkOkSpec : ChangeSpec := { name := "fnExactLinkOk", fn := fun _ => fun
  | [d] => { results := [.lit (.bool true)], args := [d] }
  | _ => none }
def fnExactLinkOkRow : OpenClaim := { program := "ythmjehbcnjeccaa", sum := "29596f59f2ea885d11e9393822096917de24b2322b20a76b6fbc61168a6902b6", func := "loop.example/g00973/laws.FnExactLinkOk", spec := "fnExactLinkOk", apart := false }
def FnExactLinkOkSaid : Prop := fnExactLinkOkRow.holds Try.pinned (OpenSpec.ofChange fnExactLinkOkSpec)

/-- ITS FALSE NEIGHBOUR: 'it returns false'. Refute it at one input. -/
def fnExactLinkOkWrong : ChangeSpec := { name := "fnExactLinkOk", fn := fun _ => fun
  | [d] => { results := [.lit (.bool false)], args := [d] }
  | _ => none }
def FnExactLinkOkWrongFalsely : Prop := fnExactLinkOkRow.holds Try.pinned (OpenSpec.ofChange fnExactLinkOkWrong)

/-- 'laws.FnExactChanged': WHATEVER THE INPUT: true; the input reads as it did. -/
def fnExactChangedSpec : ChangeSpec := { name := "fnExactChanged", fn := fun _ => fun
  | [d1, d2, d3] => { results := [.lit (.bool true)], args := [d1, d2, d3] }
  | _ => none }
def fnExactChangedRow : OpenClaim := { program := "ythmjehbcnjeccaa", sum := "29596f59f2ea885d11e9393822096917de24b2322b20a76b6fbc61168a6902b6", func := "loop.example/g00973/laws.FnExactChanged", spec := "fnExactChanged", apart := false }
def FnExactChangedSaid : Prop := fnExactChangedRow.holds Try.pinned (OpenSpec.ofChange fnExactChangedSpec)

/-- ITS FALSE NEIGHBOUR: 'it returns false'. Refute it at one input. -/
def fnExactChangedWrong : ChangeSpec := { name := "fnExactChanged", fn := fun _ => fun
  | [d1, d2, d3] => { results := [.lit (.bool false)], args := [d1, d2, d3] }
  | _ => none }
def FnExactChangedWrongFalsely : Prop := fnExactChangedRow.holds Try.pinned (OpenSpec.ofChange fnExactChangedWrong)

/-- 'laws.FnExactCreditBack': WHATEVER THE INPUT: true; the input reads as it did. -/
def fnExactCreditBackSpec : ChangeSpec := { name := "fnExactCreditBack", fn := fun _ => fun
  | [d] => { results := [.lit (.bool true)], args := [d] }
  | _ => none }
def fnExactCreditBackRow : OpenClaim := { program := "ythmjehbcnjeccaa", sum := "29596f59f2ea885d11e9393822096917de24b2322b20a76b6fbc61168a6902b6", func := "loop.example/g00973/laws.FnExactCreditBack", spec := "fnExactCreditBack", apart := false }
def FnExactCreditBackSaid : Prop := fnExactCreditBackRow.holds Try.pinned (OpenSpec.ofChange fnExactCreditBackSpec)

/-- ITS FALSE NEIGHBOUR: 'it returns false'. Refute it at one input. -/
def fnExactCreditBackWrong : ChangeSpec := { name := "fnExactCreditBack", fn := fun _ => fun
  | [d] => { results := [.lit (.bool false)], args := [d] }
  | _ => none }
def FnExactCreditBackWrongFalsely : Prop := fnExactCreditBackRow.holds Try.pinned (OpenSpec.ofChange fnExactCreditBackWrong)

/-- 'laws.FnExactSendOn': WHATEVER THE INPUT: true; the input reads as it did. -/
def fnExactSendOnSpec : ChangeSpec := { name := "fnExactSendOn", fn := fun _ => fun
  | [d1, d2] => { results := [.lit (.bool true)], args := [d1, d2] }
  | _ => none }
def fnExactSendOnRow : OpenClaim := { program := "ythmjehbcnjeccaa", sum := "29596f59f2ea885d11e9393822096917de24b2322b20a76b6fbc61168a6902b6", func := "loop.example/g00973/laws.FnExactSendOn", spec := "fnExactSendOn", apart := false }
def FnExactSendOnSaid : Prop := fnExactSendOnRow.holds Try.pinned (OpenSpec.ofChange fnExactSendOnSpec)

/-- ITS FALSE NEIGHBOUR: 'it returns false'. Refute it at one input. -/
def fnExactSendOnWrong : ChangeSpec := { name := "fnExactSendOn", fn := fun _ => fun
  | [d1, d2] => { results := [.lit (.bool false)], args := [d1, d2] }
  | _ => none }
def FnExactSendOnWrongFalsely : Prop := fnExactSendOnRow.holds Try.pinned (OpenSpec.ofChange fnExactSendOnWrong)

/-- 'laws.FnExactTakeFrom': WHATEVER THE INPUT: true; the input reads as it did. -/
def fnExactTakeFromSpec : ChangeSpec := { name := "fnExactTakeFrom", fn := fun _ => fun
  | [d] => { results := [.lit (.bool true)], args := [d] }
  | _ => none }
def fnExactTakeFromRow : OpenClaim := { program := "ythmjehbcnjeccaa", sum := "29596f59f2ea885d11e9393822096917de24b2322b20a76b6fbc61168a6902b6", func := "loop.example/g00973/laws.FnExactTakeFrom", spec := "fnExactTakeFrom", apart := false }
def FnExactTakeFromSaid : Prop := fnExactTakeFromRow.holds Try.pinned (OpenSpec.ofChange fnExactTakeFromSpec)

/-- ITS FALSE NEIGHBOUR: 'it returns false'. Refute it at one input. -/
def fnExactTakeFromWrong : ChangeSpec := { name := "fnExactTakeFrom", fn := fun _ => fun
  | [d] => { results := [.lit (.bool false)], args := [d] }
  | _ => none }
def FnExactTakeFromWrongFalsely : Prop := fnExactTakeFromRow.holds Try.pinned (OpenSpec.ofChange fnExactTakeFromWrong)

/-- 'laws.FnExactAdjust': WHATEVER THE INPUT: true; the input reads as it did. -/
def fnExactAdjustSpec : ChangeSpec := { name := "fnExactAdjust", fn := fun _ => fun
  | [d1, d2, d3] => { results := [.lit (.bool true)], args := [d1, d2, d3] }
  | _ => none }
def fnExactAdjustRow : OpenClaim := { program := "ythmjehbcnjeccaa", sum := "29596f59f2ea885d11e9393822096917de24b2322b20a76b6fbc61168a6902b6", func := "loop.example/g00973/laws.FnExactAdjust", spec := "fnExactAdjust", apart := false }
def FnExactAdjustSaid : Prop := fnExactAdjustRow.holds Try.pinned (OpenSpec.ofChange fnExactAdjustSpec)

/-- ITS FALSE NEIGHBOUR: 'it returns false'. Refute it at one input. -/
def fnExactAdjustWrong : ChangeSpec := { name := "fnExactAdjust", fn := fun _ => fun
  | [d1, d2, d3] => { results := [.lit (.bool false)], args := [d1, d2, d3] }
  | _ => none }
def FnExactAdjustWrongFalsely : Prop := fnExactAdjustRow.holds Try.pinned (OpenSpec.ofChange fnExactAdjustWrong)

/-- 'laws.FnExactAddCounts': WHATEVER THE INPUT: true; the input reads as it did. -/
def fnExactAddCountsSpec : ChangeSpec := { name := "fnExactAddCounts", fn := fun _ => fun
  | [d1, d2] => { results := [.lit (.bool true)], args := [d1, d2] }
  | _ => none }
def fnExactAddCountsRow : OpenClaim := { program := "ythmjehbcnjeccaa", sum := "29596f59f2ea885d11e9393822096917de24b2322b20a76b6fbc61168a6902b6", func := "loop.example/g00973/laws.FnExactAddCounts", spec := "fnExactAddCounts", apart := false }
def FnExactAddCountsSaid : Prop := fnExactAddCountsRow.holds Try.pinned (OpenSpec.ofChange fnExactAddCountsSpec)

/-- ITS FALSE NEIGHBOUR: 'it returns false'. Refute it at one input. -/
def fnExactAddCountsWrong : ChangeSpec := { name := "fnExactAddCounts", fn := fun _ => fun
  | [d1, d2] => { results := [.lit (.bool false)], args := [d1, d2] }
  | _ => none }
def FnExactAddCountsWrongFalsely : Prop := fnExactAddCountsRow.holds Try.pinned (OpenSpec.ofChange fnExactAddCountsWrong)

/- THE SECOND FORM. 'bulk': how many values and letters a reading holds, each counted each time it is reached (what is shared counts as often as it is met; a slice's spare places count too). A statement '..UptoSaid' is the law's where the arguments, and the package variables that the reading takes, are together of bulk at most 1048576: NARROWER than '..Said'. Prove '..Said' where nothing that the law and all that it calls make is longer than what came in: it says more and counts as full. Else prove '..UptoSaid'. A law counts once. -/
mutual
def uptoBulk {H : Type} : DataW H → Nat
  | .lit (.string bytes) => bytes.length + 1
  | .lit _ => 1
  | .nil => 1
  | .ptr d => uptoBulk d + 1
  | .slice elems spare => uptoBulkAll elems + uptoBulkAll spare + 1
  | .agg parts => uptoBulkAll parts + 1
  | .iface _ d => uptoBulk d + 1
  | .map entries => uptoBulkEntries entries + 1
  | .held _ => 1
def uptoBulkAll {H : Type} : List (DataW H) → Nat
  | [] => 0
  | d :: r => uptoBulk d + uptoBulkAll r
def uptoBulkEntries {H : Type} : List (Lit × DataW H) → Nat
  | [] => 0
  | x :: r => uptoBulkEntry x + uptoBulkEntries r
def uptoBulkEntry {H : Type} : Lit × DataW H → Nat
  | (.string bytes, d) => bytes.length + uptoBulk d + 1
  | (_, d) => uptoBulk d + 1
 end
def uptoSmall : (H : Type) → List (DataW H) → Bool := fun _ ds => decide (uptoBulkAll ds ≤ 1048576)
def OpenSpec.upto (s : _root_.Go.ChangeSpec) : _root_.Go.OpenSpec := { _root_.Go.OpenSpec.ofChange s with cond := some uptoSmall }

/-- 'laws.FnExactEpochOver', WHERE WHAT IT READS IS OF BULK AT MOST 1048576: true; the input reads as it did. -/
def fnExactEpochOverUptoRow : OpenClaim := { program := "ythmjehbcnjeccaa", sum := "29596f59f2ea885d11e9393822096917de24b2322b20a76b6fbc61168a6902b6", func := "loop.example/g00973/laws.FnExactEpochOver", spec := "fnExactEpochOver", unfollowed := true, recurses := true, apart := false, narrowed := true }
def FnExactEpochOverUptoSaid : Prop := fnExactEpochOverUptoRow.holds Try.pinned (OpenSpec.upto fnExactEpochOverSpec)

/-- 'laws.FnExactSameFront', WHERE WHAT IT READS IS OF BULK AT MOST 1048576: true; the input reads as it did. -/
def fnExactSameFrontUptoRow : OpenClaim := { program := "ythmjehbcnjeccaa", sum := "29596f59f2ea885d11e9393822096917de24b2322b20a76b6fbc61168a6902b6", func := "loop.example/g00973/laws.FnExactSameFront", spec := "fnExactSameFront", apart := false, narrowed := true }
def FnExactSameFrontUptoSaid : Prop := fnExactSameFrontUptoRow.holds Try.pinned (OpenSpec.upto fnExactSameFrontSpec)

/-- 'laws.FnExactStampOrder', WHERE WHAT IT READS IS OF BULK AT MOST 1048576: true; the input reads as it did. -/
def fnExactStampOrderUptoRow : OpenClaim := { program := "ythmjehbcnjeccaa", sum := "29596f59f2ea885d11e9393822096917de24b2322b20a76b6fbc61168a6902b6", func := "loop.example/g00973/laws.FnExactStampOrder", spec := "fnExactStampOrder", apart := false, narrowed := true }
def FnExactStampOrderUptoSaid : Prop := fnExactStampOrderUptoRow.holds Try.pinned (OpenSpec.upto fnExactStampOrderSpec)

/-- 'laws.FnExactAhead', WHERE WHAT IT READS IS OF BULK AT MOST 1048576: true; the input reads as it did. -/
def fnExactAheadUptoRow : OpenClaim := { program := "ythmjehbcnjeccaa", sum := "29596f59f2ea885d11e9393822096917de24b2322b20a76b6fbc61168a6902b6", func := "loop.example/g00973/laws.FnExactAhead", spec := "fnExactAhead", unfollowed := true, recurses := true, apart := false, narrowed := true }
def FnExactAheadUptoSaid : Prop := fnExactAheadUptoRow.holds Try.pinned (OpenSpec.upto fnExactAheadSpec)

/-- 'laws.FnExactTotalCount', WHERE WHAT IT READS IS OF BULK AT MOST 1048576: true; the input reads as it did. -/
def fnExactTotalCountUptoRow : OpenClaim := { program := "ythmjehbcnjeccaa", sum := "29596f59f2ea885d11e9393822096917de24b2322b20a76b6fbc61168a6902b6", func := "loop.example/g00973/laws.FnExactTotalCount", spec := "fnExactTotalCount", apart := false, narrowed := true }
def FnExactTotalCountUptoSaid : Prop := fnExactTotalCountUptoRow.holds Try.pinned (OpenSpec.upto fnExactTotalCountSpec)

/-- 'laws.FnExactCountAt', WHERE WHAT IT READS IS OF BULK AT MOST 1048576: true; the input reads as it did. -/
def fnExactCountAtUptoRow : OpenClaim := { program := "ythmjehbcnjeccaa", sum := "29596f59f2ea885d11e9393822096917de24b2322b20a76b6fbc61168a6902b6", func := "loop.example/g00973/laws.FnExactCountAt", spec := "fnExactCountAt", apart := false, narrowed := true }
def FnExactCountAtUptoSaid : Prop := fnExactCountAtUptoRow.holds Try.pinned (OpenSpec.upto fnExactCountAtSpec)

/-- 'laws.FnExactEpochCount', WHERE WHAT IT READS IS OF BULK AT MOST 1048576: true; the input reads as it did. -/
def fnExactEpochCountUptoRow : OpenClaim := { program := "ythmjehbcnjeccaa", sum := "29596f59f2ea885d11e9393822096917de24b2322b20a76b6fbc61168a6902b6", func := "loop.example/g00973/laws.FnExactEpochCount", spec := "fnExactEpochCount", apart := false, narrowed := true }
def FnExactEpochCountUptoSaid : Prop := fnExactEpochCountUptoRow.holds Try.pinned (OpenSpec.upto fnExactEpochCountSpec)

/-- 'laws.FnExactFrontLeq', WHERE WHAT IT READS IS OF BULK AT MOST 1048576: true; the input reads as it did. -/
def fnExactFrontLeqUptoRow : OpenClaim := { program := "ythmjehbcnjeccaa", sum := "29596f59f2ea885d11e9393822096917de24b2322b20a76b6fbc61168a6902b6", func := "loop.example/g00973/laws.FnExactFrontLeq", spec := "fnExactFrontLeq", unfollowed := true, recurses := true, apart := false, narrowed := true }
def FnExactFrontLeqUptoSaid : Prop := fnExactFrontLeqUptoRow.holds Try.pinned (OpenSpec.upto fnExactFrontLeqSpec)

/-- 'laws.FnExactRecordOrder', WHERE WHAT IT READS IS OF BULK AT MOST 1048576: true; the input reads as it did. -/
def fnExactRecordOrderUptoRow : OpenClaim := { program := "ythmjehbcnjeccaa", sum := "29596f59f2ea885d11e9393822096917de24b2322b20a76b6fbc61168a6902b6", func := "loop.example/g00973/laws.FnExactRecordOrder", spec := "fnExactRecordOrder", apart := false, narrowed := true }
def FnExactRecordOrderUptoSaid : Prop := fnExactRecordOrderUptoRow.holds Try.pinned (OpenSpec.upto fnExactRecordOrderSpec)

/-- 'laws.FnExactNodeOk', WHERE WHAT IT READS IS OF BULK AT MOST 1048576: true; the input reads as it did. -/
def fnExactNodeOkUptoRow : OpenClaim := { program := "ythmjehbcnjeccaa", sum := "29596f59f2ea885d11e9393822096917de24b2322b20a76b6fbc61168a6902b6", func := "loop.example/g00973/laws.FnExactNodeOk", spec := "fnExactNodeOk", apart := false, narrowed := true }
def FnExactNodeOkUptoSaid : Prop := fnExactNodeOkUptoRow.holds Try.pinned (OpenSpec.upto fnExactNodeOkSpec)

/-- 'laws.FnExactOfEpoch', WHERE WHAT IT READS IS OF BULK AT MOST 1048576: true; the input reads as it did. -/
def fnExactOfEpochUptoRow : OpenClaim := { program := "ythmjehbcnjeccaa", sum := "29596f59f2ea885d11e9393822096917de24b2322b20a76b6fbc61168a6902b6", func := "loop.example/g00973/laws.FnExactOfEpoch", spec := "fnExactOfEpoch", apart := false, narrowed := true }
def FnExactOfEpochUptoSaid : Prop := fnExactOfEpochUptoRow.holds Try.pinned (OpenSpec.upto fnExactOfEpochSpec)

/-- 'laws.FnExactInFlight', WHERE WHAT IT READS IS OF BULK AT MOST 1048576: true; the input reads as it did. -/
def fnExactInFlightUptoRow : OpenClaim := { program := "ythmjehbcnjeccaa", sum := "29596f59f2ea885d11e9393822096917de24b2322b20a76b6fbc61168a6902b6", func := "loop.example/g00973/laws.FnExactInFlight", spec := "fnExactInFlight", apart := false, narrowed := true }
def FnExactInFlightUptoSaid : Prop := fnExactInFlightUptoRow.holds Try.pinned (OpenSpec.upto fnExactInFlightSpec)

/-- 'laws.FnExactSameLink', WHERE WHAT IT READS IS OF BULK AT MOST 1048576: true; the input reads as it did. -/
def fnExactSameLinkUptoRow : OpenClaim := { program := "ythmjehbcnjeccaa", sum := "29596f59f2ea885d11e9393822096917de24b2322b20a76b6fbc61168a6902b6", func := "loop.example/g00973/laws.FnExactSameLink", spec := "fnExactSameLink", apart := false, narrowed := true }
def FnExactSameLinkUptoSaid : Prop := fnExactSameLinkUptoRow.holds Try.pinned (OpenSpec.upto fnExactSameLinkSpec)

/-- 'laws.FnExactLinkNew', WHERE WHAT IT READS IS OF BULK AT MOST 1048576: true; the input reads as it did. -/
def fnExactLinkNewUptoRow : OpenClaim := { program := "ythmjehbcnjeccaa", sum := "29596f59f2ea885d11e9393822096917de24b2322b20a76b6fbc61168a6902b6", func := "loop.example/g00973/laws.FnExactLinkNew", spec := "fnExactLinkNew", apart := false, narrowed := true }
def FnExactLinkNewUptoSaid : Prop := fnExactLinkNewUptoRow.holds Try.pinned (OpenSpec.upto fnExactLinkNewSpec)

/-- 'laws.FnExactCountsOk', WHERE WHAT IT READS IS OF BULK AT MOST 1048576: true; the input reads as it did. -/
def fnExactCountsOkUptoRow : OpenClaim := { program := "ythmjehbcnjeccaa", sum := "29596f59f2ea885d11e9393822096917de24b2322b20a76b6fbc61168a6902b6", func := "loop.example/g00973/laws.FnExactCountsOk", spec := "fnExactCountsOk", apart := false, narrowed := true }
def FnExactCountsOkUptoSaid : Prop := fnExactCountsOkUptoRow.holds Try.pinned (OpenSpec.upto fnExactCountsOkSpec)

/-- 'laws.FnExactLinkOk', WHERE WHAT IT READS IS OF BULK AT MOST 1048576: true; the input reads as it did. -/
def fnExactLinkOkUptoRow : OpenClaim := { program := "ythmjehbcnjeccaa", sum := "29596f59f2ea885d11e9393822096917de24b2322b20a76b6fbc61168a6902b6", func := "loop.example/g00973/laws.FnExactLinkOk", spec := "fnExactLinkOk", apart := false, narrowed := true }
def FnExactLinkOkUptoSaid : Prop := fnExactLinkOkUptoRow.holds Try.pinned (OpenSpec.upto fnExactLinkOkSpec)

/-- 'laws.FnExactChanged', WHERE WHAT IT READS IS OF BULK AT MOST 1048576: true; the input reads as it did. -/
def fnExactChangedUptoRow : OpenClaim := { program := "ythmjehbcnjeccaa", sum := "29596f59f2ea885d11e9393822096917de24b2322b20a76b6fbc61168a6902b6", func := "loop.example/g00973/laws.FnExactChanged", spec := "fnExactChanged", apart := false, narrowed := true }
def FnExactChangedUptoSaid : Prop := fnExactChangedUptoRow.holds Try.pinned (OpenSpec.upto fnExactChangedSpec)

/-- 'laws.FnExactCreditBack', WHERE WHAT IT READS IS OF BULK AT MOST 1048576: true; the input reads as it did. -/
def fnExactCreditBackUptoRow : OpenClaim := { program := "ythmjehbcnjeccaa", sum := "29596f59f2ea885d11e9393822096917de24b2322b20a76b6fbc61168a6902b6", func := "loop.example/g00973/laws.FnExactCreditBack", spec := "fnExactCreditBack", apart := false, narrowed := true }
def FnExactCreditBackUptoSaid : Prop := fnExactCreditBackUptoRow.holds Try.pinned (OpenSpec.upto fnExactCreditBackSpec)

/-- 'laws.FnExactSendOn', WHERE WHAT IT READS IS OF BULK AT MOST 1048576: true; the input reads as it did. -/
def fnExactSendOnUptoRow : OpenClaim := { program := "ythmjehbcnjeccaa", sum := "29596f59f2ea885d11e9393822096917de24b2322b20a76b6fbc61168a6902b6", func := "loop.example/g00973/laws.FnExactSendOn", spec := "fnExactSendOn", apart := false, narrowed := true }
def FnExactSendOnUptoSaid : Prop := fnExactSendOnUptoRow.holds Try.pinned (OpenSpec.upto fnExactSendOnSpec)

/-- 'laws.FnExactTakeFrom', WHERE WHAT IT READS IS OF BULK AT MOST 1048576: true; the input reads as it did. -/
def fnExactTakeFromUptoRow : OpenClaim := { program := "ythmjehbcnjeccaa", sum := "29596f59f2ea885d11e9393822096917de24b2322b20a76b6fbc61168a6902b6", func := "loop.example/g00973/laws.FnExactTakeFrom", spec := "fnExactTakeFrom", apart := false, narrowed := true }
def FnExactTakeFromUptoSaid : Prop := fnExactTakeFromUptoRow.holds Try.pinned (OpenSpec.upto fnExactTakeFromSpec)

/-- 'laws.FnExactAdjust', WHERE WHAT IT READS IS OF BULK AT MOST 1048576: true; the input reads as it did. -/
def fnExactAdjustUptoRow : OpenClaim := { program := "ythmjehbcnjeccaa", sum := "29596f59f2ea885d11e9393822096917de24b2322b20a76b6fbc61168a6902b6", func := "loop.example/g00973/laws.FnExactAdjust", spec := "fnExactAdjust", apart := false, narrowed := true }
def FnExactAdjustUptoSaid : Prop := fnExactAdjustUptoRow.holds Try.pinned (OpenSpec.upto fnExactAdjustSpec)

/-- 'laws.FnExactAddCounts', WHERE WHAT IT READS IS OF BULK AT MOST 1048576: true; the input reads as it did. -/
def fnExactAddCountsUptoRow : OpenClaim := { program := "ythmjehbcnjeccaa", sum := "29596f59f2ea885d11e9393822096917de24b2322b20a76b6fbc61168a6902b6", func := "loop.example/g00973/laws.FnExactAddCounts", spec := "fnExactAddCounts", apart := false, narrowed := true }
def FnExactAddCountsUptoSaid : Prop := fnExactAddCountsUptoRow.holds Try.pinned (OpenSpec.upto fnExactAddCountsSpec)

end Rows
end Go.Proofs.Ythmjehbcnjeccaa
