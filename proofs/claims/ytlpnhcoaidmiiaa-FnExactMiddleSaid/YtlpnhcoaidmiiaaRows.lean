/-
  No cell of these rows narrows 'for every input' (looked for: loops, veiled, ifaces, maps, wideKeys, modest, calm, conditions, laid).
  DERIVED. THE GIVEN ROWS OF THIS SEAT. 23 by the template 'for every input the law returns true; each argument reads behind the call as it read before'; 0 by the template 'total and deterministic' (their statements: YtlpnhcoaidmiiaaTotals.lean).
  GIVEN WITH THE SEED: the statements are not yours to turn. If you find one false, say at which input.
  Laid BY PROGRAM, IN A SANDBOX (cutbox-rows.mjs): the forced cells as the released guide's own fill.sh prints them over the translation 16cdd3f466d610f8… (all of the seat's roots in one cut). By AI agents, Wed Nov 11 2026. No macro, syntax, notation, axiom, sorry.
-/
import Derived.Test.YtlpnhcoaidmiiaaChecked
import GoSem.Claim
import GoSem.ClaimJoined
import GoSem.ClaimMapViews
import Derived.JoinedTies
import Derived.KernelRfl
namespace Go.Proofs.Ytlpnhcoaidmiiaa
/- THE CELL 'sum', in the pinned program and in every row, IS THE sha256 OF THE DUMP (.gsa) THAT YtlpnhcoaidmiiaaProg.lean LOADS. Nothing in Lean hashes anything: it is a label: what it is worth is what the hold of that sum in a sandbox is worth. -/
noncomputable def Try.pinned : Pinned := { name := "ytlpnhcoaidmiiaa", sum := "16cdd3f466d610f834a38617dcc44f83180e8a4cf5763132010903fce635007d", checked := Try.checked }
namespace Rows
def none {H : Type} : Left H := { results := [], args := [] }

/-- 'laws.FnExactRatFromInt': WHATEVER THE INPUT: true; the input reads as it did. -/
def fnExactRatFromIntSpec : ChangeSpec := { name := "fnExactRatFromInt", fn := fun _ => fun
  | [d] => { results := [.lit (.bool true)], args := [d] }
  | _ => none }
def fnExactRatFromIntRow : OpenClaim := { program := "ytlpnhcoaidmiiaa", sum := "16cdd3f466d610f834a38617dcc44f83180e8a4cf5763132010903fce635007d", func := "loop.example/g00812/laws.FnExactRatFromInt", spec := "fnExactRatFromInt", unfollowed := true, recurses := true, apart := false }
def FnExactRatFromIntSaid : Prop := fnExactRatFromIntRow.holds Try.pinned (OpenSpec.ofChange fnExactRatFromIntSpec)

/-- ITS FALSE NEIGHBOUR: 'it returns false'. Refute it at one input. -/
def fnExactRatFromIntWrong : ChangeSpec := { name := "fnExactRatFromInt", fn := fun _ => fun
  | [d] => { results := [.lit (.bool false)], args := [d] }
  | _ => none }
def FnExactRatFromIntWrongFalsely : Prop := fnExactRatFromIntRow.holds Try.pinned (OpenSpec.ofChange fnExactRatFromIntWrong)

/-- 'laws.FnExactPointAt': WHATEVER THE INPUT: true; the input reads as it did. -/
def fnExactPointAtSpec : ChangeSpec := { name := "fnExactPointAt", fn := fun _ => fun
  | [d1, d2] => { results := [.lit (.bool true)], args := [d1, d2] }
  | _ => none }
def fnExactPointAtRow : OpenClaim := { program := "ytlpnhcoaidmiiaa", sum := "16cdd3f466d610f834a38617dcc44f83180e8a4cf5763132010903fce635007d", func := "loop.example/g00812/laws.FnExactPointAt", spec := "fnExactPointAt", unfollowed := true, recurses := true, apart := false }
def FnExactPointAtSaid : Prop := fnExactPointAtRow.holds Try.pinned (OpenSpec.ofChange fnExactPointAtSpec)

/-- ITS FALSE NEIGHBOUR: 'it returns false'. Refute it at one input. -/
def fnExactPointAtWrong : ChangeSpec := { name := "fnExactPointAt", fn := fun _ => fun
  | [d1, d2] => { results := [.lit (.bool false)], args := [d1, d2] }
  | _ => none }
def FnExactPointAtWrongFalsely : Prop := fnExactPointAtRow.holds Try.pinned (OpenSpec.ofChange fnExactPointAtWrong)

/-- 'laws.FnExactRatOk': WHATEVER THE INPUT: true; the input reads as it did. -/
def fnExactRatOkSpec : ChangeSpec := { name := "fnExactRatOk", fn := fun _ => fun
  | [d] => { results := [.lit (.bool true)], args := [d] }
  | _ => none }
def fnExactRatOkRow : OpenClaim := { program := "ytlpnhcoaidmiiaa", sum := "16cdd3f466d610f834a38617dcc44f83180e8a4cf5763132010903fce635007d", func := "loop.example/g00812/laws.FnExactRatOk", spec := "fnExactRatOk", unfollowed := true, recurses := true, apart := false }
def FnExactRatOkSaid : Prop := fnExactRatOkRow.holds Try.pinned (OpenSpec.ofChange fnExactRatOkSpec)

/-- ITS FALSE NEIGHBOUR: 'it returns false'. Refute it at one input. -/
def fnExactRatOkWrong : ChangeSpec := { name := "fnExactRatOk", fn := fun _ => fun
  | [d] => { results := [.lit (.bool false)], args := [d] }
  | _ => none }
def FnExactRatOkWrongFalsely : Prop := fnExactRatOkRow.holds Try.pinned (OpenSpec.ofChange fnExactRatOkWrong)

/-- 'laws.FnExactRatSign': WHATEVER THE INPUT: true; the input reads as it did. -/
def fnExactRatSignSpec : ChangeSpec := { name := "fnExactRatSign", fn := fun _ => fun
  | [d] => { results := [.lit (.bool true)], args := [d] }
  | _ => none }
def fnExactRatSignRow : OpenClaim := { program := "ytlpnhcoaidmiiaa", sum := "16cdd3f466d610f834a38617dcc44f83180e8a4cf5763132010903fce635007d", func := "loop.example/g00812/laws.FnExactRatSign", spec := "fnExactRatSign", unfollowed := true, recurses := true, apart := false }
def FnExactRatSignSaid : Prop := fnExactRatSignRow.holds Try.pinned (OpenSpec.ofChange fnExactRatSignSpec)

/-- ITS FALSE NEIGHBOUR: 'it returns false'. Refute it at one input. -/
def fnExactRatSignWrong : ChangeSpec := { name := "fnExactRatSign", fn := fun _ => fun
  | [d] => { results := [.lit (.bool false)], args := [d] }
  | _ => none }
def FnExactRatSignWrongFalsely : Prop := fnExactRatSignRow.holds Try.pinned (OpenSpec.ofChange fnExactRatSignWrong)

/-- 'laws.FnExactIsValidPoint': WHATEVER THE INPUT: true; the input reads as it did. -/
def fnExactIsValidPointSpec : ChangeSpec := { name := "fnExactIsValidPoint", fn := fun _ => fun
  | [d] => { results := [.lit (.bool true)], args := [d] }
  | _ => none }
def fnExactIsValidPointRow : OpenClaim := { program := "ytlpnhcoaidmiiaa", sum := "16cdd3f466d610f834a38617dcc44f83180e8a4cf5763132010903fce635007d", func := "loop.example/g00812/laws.FnExactIsValidPoint", spec := "fnExactIsValidPoint", unfollowed := true, recurses := true, apart := false }
def FnExactIsValidPointSaid : Prop := fnExactIsValidPointRow.holds Try.pinned (OpenSpec.ofChange fnExactIsValidPointSpec)

/-- ITS FALSE NEIGHBOUR: 'it returns false'. Refute it at one input. -/
def fnExactIsValidPointWrong : ChangeSpec := { name := "fnExactIsValidPoint", fn := fun _ => fun
  | [d] => { results := [.lit (.bool false)], args := [d] }
  | _ => none }
def FnExactIsValidPointWrongFalsely : Prop := fnExactIsValidPointRow.holds Try.pinned (OpenSpec.ofChange fnExactIsValidPointWrong)

/-- 'laws.FnExactRatOf': WHATEVER THE INPUT: true; the input reads as it did. -/
def fnExactRatOfSpec : ChangeSpec := { name := "fnExactRatOf", fn := fun _ => fun
  | [d1, d2] => { results := [.lit (.bool true)], args := [d1, d2] }
  | _ => none }
def fnExactRatOfRow : OpenClaim := { program := "ytlpnhcoaidmiiaa", sum := "16cdd3f466d610f834a38617dcc44f83180e8a4cf5763132010903fce635007d", func := "loop.example/g00812/laws.FnExactRatOf", spec := "fnExactRatOf", unfollowed := true, recurses := true, apart := false }
def FnExactRatOfSaid : Prop := fnExactRatOfRow.holds Try.pinned (OpenSpec.ofChange fnExactRatOfSpec)

/-- ITS FALSE NEIGHBOUR: 'it returns false'. Refute it at one input. -/
def fnExactRatOfWrong : ChangeSpec := { name := "fnExactRatOf", fn := fun _ => fun
  | [d1, d2] => { results := [.lit (.bool false)], args := [d1, d2] }
  | _ => none }
def FnExactRatOfWrongFalsely : Prop := fnExactRatOfRow.holds Try.pinned (OpenSpec.ofChange fnExactRatOfWrong)

/-- 'laws.FnExactRatMake': WHATEVER THE INPUT: true; the input reads as it did. -/
def fnExactRatMakeSpec : ChangeSpec := { name := "fnExactRatMake", fn := fun _ => fun
  | [d1, d2] => { results := [.lit (.bool true)], args := [d1, d2] }
  | _ => none }
def fnExactRatMakeRow : OpenClaim := { program := "ytlpnhcoaidmiiaa", sum := "16cdd3f466d610f834a38617dcc44f83180e8a4cf5763132010903fce635007d", func := "loop.example/g00812/laws.FnExactRatMake", spec := "fnExactRatMake", unfollowed := true, recurses := true, apart := false }
def FnExactRatMakeSaid : Prop := fnExactRatMakeRow.holds Try.pinned (OpenSpec.ofChange fnExactRatMakeSpec)

/-- ITS FALSE NEIGHBOUR: 'it returns false'. Refute it at one input. -/
def fnExactRatMakeWrong : ChangeSpec := { name := "fnExactRatMake", fn := fun _ => fun
  | [d1, d2] => { results := [.lit (.bool false)], args := [d1, d2] }
  | _ => none }
def FnExactRatMakeWrongFalsely : Prop := fnExactRatMakeRow.holds Try.pinned (OpenSpec.ofChange fnExactRatMakeWrong)

/-- 'laws.FnExactHalfPoint': WHATEVER THE INPUT: true; the input reads as it did. -/
def fnExactHalfPointSpec : ChangeSpec := { name := "fnExactHalfPoint", fn := fun _ => fun
  | [d1, d2] => { results := [.lit (.bool true)], args := [d1, d2] }
  | _ => none }
def fnExactHalfPointRow : OpenClaim := { program := "ytlpnhcoaidmiiaa", sum := "16cdd3f466d610f834a38617dcc44f83180e8a4cf5763132010903fce635007d", func := "loop.example/g00812/laws.FnExactHalfPoint", spec := "fnExactHalfPoint", unfollowed := true, recurses := true, apart := false }
def FnExactHalfPointSaid : Prop := fnExactHalfPointRow.holds Try.pinned (OpenSpec.ofChange fnExactHalfPointSpec)

/-- ITS FALSE NEIGHBOUR: 'it returns false'. Refute it at one input. -/
def fnExactHalfPointWrong : ChangeSpec := { name := "fnExactHalfPoint", fn := fun _ => fun
  | [d1, d2] => { results := [.lit (.bool false)], args := [d1, d2] }
  | _ => none }
def FnExactHalfPointWrongFalsely : Prop := fnExactHalfPointRow.holds Try.pinned (OpenSpec.ofChange fnExactHalfPointWrong)

/-- 'laws.FnExactRatNeg': WHATEVER THE INPUT: true; the input reads as it did. -/
def fnExactRatNegSpec : ChangeSpec := { name := "fnExactRatNeg", fn := fun _ => fun
  | [d] => { results := [.lit (.bool true)], args := [d] }
  | _ => none }
def fnExactRatNegRow : OpenClaim := { program := "ytlpnhcoaidmiiaa", sum := "16cdd3f466d610f834a38617dcc44f83180e8a4cf5763132010903fce635007d", func := "loop.example/g00812/laws.FnExactRatNeg", spec := "fnExactRatNeg", unfollowed := true, recurses := true, apart := false }
def FnExactRatNegSaid : Prop := fnExactRatNegRow.holds Try.pinned (OpenSpec.ofChange fnExactRatNegSpec)

/-- ITS FALSE NEIGHBOUR: 'it returns false'. Refute it at one input. -/
def fnExactRatNegWrong : ChangeSpec := { name := "fnExactRatNeg", fn := fun _ => fun
  | [d] => { results := [.lit (.bool false)], args := [d] }
  | _ => none }
def FnExactRatNegWrongFalsely : Prop := fnExactRatNegRow.holds Try.pinned (OpenSpec.ofChange fnExactRatNegWrong)

/-- 'laws.FnExactRatCmp': WHATEVER THE INPUT: true; the input reads as it did. -/
def fnExactRatCmpSpec : ChangeSpec := { name := "fnExactRatCmp", fn := fun _ => fun
  | [d1, d2] => { results := [.lit (.bool true)], args := [d1, d2] }
  | _ => none }
def fnExactRatCmpRow : OpenClaim := { program := "ytlpnhcoaidmiiaa", sum := "16cdd3f466d610f834a38617dcc44f83180e8a4cf5763132010903fce635007d", func := "loop.example/g00812/laws.FnExactRatCmp", spec := "fnExactRatCmp", unfollowed := true, recurses := true, apart := false }
def FnExactRatCmpSaid : Prop := fnExactRatCmpRow.holds Try.pinned (OpenSpec.ofChange fnExactRatCmpSpec)

/-- ITS FALSE NEIGHBOUR: 'it returns false'. Refute it at one input. -/
def fnExactRatCmpWrong : ChangeSpec := { name := "fnExactRatCmp", fn := fun _ => fun
  | [d1, d2] => { results := [.lit (.bool false)], args := [d1, d2] }
  | _ => none }
def FnExactRatCmpWrongFalsely : Prop := fnExactRatCmpRow.holds Try.pinned (OpenSpec.ofChange fnExactRatCmpWrong)

/-- 'laws.FnExactRatMul': WHATEVER THE INPUT: true; the input reads as it did. -/
def fnExactRatMulSpec : ChangeSpec := { name := "fnExactRatMul", fn := fun _ => fun
  | [d1, d2] => { results := [.lit (.bool true)], args := [d1, d2] }
  | _ => none }
def fnExactRatMulRow : OpenClaim := { program := "ytlpnhcoaidmiiaa", sum := "16cdd3f466d610f834a38617dcc44f83180e8a4cf5763132010903fce635007d", func := "loop.example/g00812/laws.FnExactRatMul", spec := "fnExactRatMul", unfollowed := true, recurses := true, apart := false }
def FnExactRatMulSaid : Prop := fnExactRatMulRow.holds Try.pinned (OpenSpec.ofChange fnExactRatMulSpec)

/-- ITS FALSE NEIGHBOUR: 'it returns false'. Refute it at one input. -/
def fnExactRatMulWrong : ChangeSpec := { name := "fnExactRatMul", fn := fun _ => fun
  | [d1, d2] => { results := [.lit (.bool false)], args := [d1, d2] }
  | _ => none }
def FnExactRatMulWrongFalsely : Prop := fnExactRatMulRow.holds Try.pinned (OpenSpec.ofChange fnExactRatMulWrong)

/-- 'laws.FnExactRatDiv': WHATEVER THE INPUT: true; the input reads as it did. -/
def fnExactRatDivSpec : ChangeSpec := { name := "fnExactRatDiv", fn := fun _ => fun
  | [d1, d2] => { results := [.lit (.bool true)], args := [d1, d2] }
  | _ => none }
def fnExactRatDivRow : OpenClaim := { program := "ytlpnhcoaidmiiaa", sum := "16cdd3f466d610f834a38617dcc44f83180e8a4cf5763132010903fce635007d", func := "loop.example/g00812/laws.FnExactRatDiv", spec := "fnExactRatDiv", unfollowed := true, recurses := true, apart := false }
def FnExactRatDivSaid : Prop := fnExactRatDivRow.holds Try.pinned (OpenSpec.ofChange fnExactRatDivSpec)

/-- ITS FALSE NEIGHBOUR: 'it returns false'. Refute it at one input. -/
def fnExactRatDivWrong : ChangeSpec := { name := "fnExactRatDiv", fn := fun _ => fun
  | [d1, d2] => { results := [.lit (.bool false)], args := [d1, d2] }
  | _ => none }
def FnExactRatDivWrongFalsely : Prop := fnExactRatDivRow.holds Try.pinned (OpenSpec.ofChange fnExactRatDivWrong)

/-- 'laws.FnExactRatMax': WHATEVER THE INPUT: true; the input reads as it did. -/
def fnExactRatMaxSpec : ChangeSpec := { name := "fnExactRatMax", fn := fun _ => fun
  | [d1, d2] => { results := [.lit (.bool true)], args := [d1, d2] }
  | _ => none }
def fnExactRatMaxRow : OpenClaim := { program := "ytlpnhcoaidmiiaa", sum := "16cdd3f466d610f834a38617dcc44f83180e8a4cf5763132010903fce635007d", func := "loop.example/g00812/laws.FnExactRatMax", spec := "fnExactRatMax", unfollowed := true, recurses := true, apart := false }
def FnExactRatMaxSaid : Prop := fnExactRatMaxRow.holds Try.pinned (OpenSpec.ofChange fnExactRatMaxSpec)

/-- ITS FALSE NEIGHBOUR: 'it returns false'. Refute it at one input. -/
def fnExactRatMaxWrong : ChangeSpec := { name := "fnExactRatMax", fn := fun _ => fun
  | [d1, d2] => { results := [.lit (.bool false)], args := [d1, d2] }
  | _ => none }
def FnExactRatMaxWrongFalsely : Prop := fnExactRatMaxRow.holds Try.pinned (OpenSpec.ofChange fnExactRatMaxWrong)

/-- 'laws.FnExactRatMin': WHATEVER THE INPUT: true; the input reads as it did. -/
def fnExactRatMinSpec : ChangeSpec := { name := "fnExactRatMin", fn := fun _ => fun
  | [d1, d2] => { results := [.lit (.bool true)], args := [d1, d2] }
  | _ => none }
def fnExactRatMinRow : OpenClaim := { program := "ytlpnhcoaidmiiaa", sum := "16cdd3f466d610f834a38617dcc44f83180e8a4cf5763132010903fce635007d", func := "loop.example/g00812/laws.FnExactRatMin", spec := "fnExactRatMin", unfollowed := true, recurses := true, apart := false }
def FnExactRatMinSaid : Prop := fnExactRatMinRow.holds Try.pinned (OpenSpec.ofChange fnExactRatMinSpec)

/-- ITS FALSE NEIGHBOUR: 'it returns false'. Refute it at one input. -/
def fnExactRatMinWrong : ChangeSpec := { name := "fnExactRatMin", fn := fun _ => fun
  | [d1, d2] => { results := [.lit (.bool false)], args := [d1, d2] }
  | _ => none }
def FnExactRatMinWrongFalsely : Prop := fnExactRatMinRow.holds Try.pinned (OpenSpec.ofChange fnExactRatMinWrong)

/-- 'laws.FnExactScalePoint': WHATEVER THE INPUT: true; the input reads as it did. -/
def fnExactScalePointSpec : ChangeSpec := { name := "fnExactScalePoint", fn := fun _ => fun
  | [d1, d2] => { results := [.lit (.bool true)], args := [d1, d2] }
  | _ => none }
def fnExactScalePointRow : OpenClaim := { program := "ytlpnhcoaidmiiaa", sum := "16cdd3f466d610f834a38617dcc44f83180e8a4cf5763132010903fce635007d", func := "loop.example/g00812/laws.FnExactScalePoint", spec := "fnExactScalePoint", unfollowed := true, recurses := true, apart := false }
def FnExactScalePointSaid : Prop := fnExactScalePointRow.holds Try.pinned (OpenSpec.ofChange fnExactScalePointSpec)

/-- ITS FALSE NEIGHBOUR: 'it returns false'. Refute it at one input. -/
def fnExactScalePointWrong : ChangeSpec := { name := "fnExactScalePoint", fn := fun _ => fun
  | [d1, d2] => { results := [.lit (.bool false)], args := [d1, d2] }
  | _ => none }
def FnExactScalePointWrongFalsely : Prop := fnExactScalePointRow.holds Try.pinned (OpenSpec.ofChange fnExactScalePointWrong)

/-- 'laws.FnExactRatAdd': WHATEVER THE INPUT: true; the input reads as it did. -/
def fnExactRatAddSpec : ChangeSpec := { name := "fnExactRatAdd", fn := fun _ => fun
  | [d1, d2] => { results := [.lit (.bool true)], args := [d1, d2] }
  | _ => none }
def fnExactRatAddRow : OpenClaim := { program := "ytlpnhcoaidmiiaa", sum := "16cdd3f466d610f834a38617dcc44f83180e8a4cf5763132010903fce635007d", func := "loop.example/g00812/laws.FnExactRatAdd", spec := "fnExactRatAdd", unfollowed := true, recurses := true, apart := false }
def FnExactRatAddSaid : Prop := fnExactRatAddRow.holds Try.pinned (OpenSpec.ofChange fnExactRatAddSpec)

/-- ITS FALSE NEIGHBOUR: 'it returns false'. Refute it at one input. -/
def fnExactRatAddWrong : ChangeSpec := { name := "fnExactRatAdd", fn := fun _ => fun
  | [d1, d2] => { results := [.lit (.bool false)], args := [d1, d2] }
  | _ => none }
def FnExactRatAddWrongFalsely : Prop := fnExactRatAddRow.holds Try.pinned (OpenSpec.ofChange fnExactRatAddWrong)

/-- 'laws.FnExactRatSub': WHATEVER THE INPUT: true; the input reads as it did. -/
def fnExactRatSubSpec : ChangeSpec := { name := "fnExactRatSub", fn := fun _ => fun
  | [d1, d2] => { results := [.lit (.bool true)], args := [d1, d2] }
  | _ => none }
def fnExactRatSubRow : OpenClaim := { program := "ytlpnhcoaidmiiaa", sum := "16cdd3f466d610f834a38617dcc44f83180e8a4cf5763132010903fce635007d", func := "loop.example/g00812/laws.FnExactRatSub", spec := "fnExactRatSub", unfollowed := true, recurses := true, apart := false }
def FnExactRatSubSaid : Prop := fnExactRatSubRow.holds Try.pinned (OpenSpec.ofChange fnExactRatSubSpec)

/-- ITS FALSE NEIGHBOUR: 'it returns false'. Refute it at one input. -/
def fnExactRatSubWrong : ChangeSpec := { name := "fnExactRatSub", fn := fun _ => fun
  | [d1, d2] => { results := [.lit (.bool false)], args := [d1, d2] }
  | _ => none }
def FnExactRatSubWrongFalsely : Prop := fnExactRatSubRow.holds Try.pinned (OpenSpec.ofChange fnExactRatSubWrong)

/-- 'laws.FnExactInner': WHATEVER THE INPUT: true; the input reads as it did. -/
def fnExactInnerSpec : ChangeSpec := { name := "fnExactInner", fn := fun _ => fun
  | [d1, d2] => { results := [.lit (.bool true)], args := [d1, d2] }
  | _ => none }
def fnExactInnerRow : OpenClaim := { program := "ytlpnhcoaidmiiaa", sum := "16cdd3f466d610f834a38617dcc44f83180e8a4cf5763132010903fce635007d", func := "loop.example/g00812/laws.FnExactInner", spec := "fnExactInner", unfollowed := true, recurses := true, apart := false }
def FnExactInnerSaid : Prop := fnExactInnerRow.holds Try.pinned (OpenSpec.ofChange fnExactInnerSpec)

/-- ITS FALSE NEIGHBOUR: 'it returns false'. Refute it at one input. -/
def fnExactInnerWrong : ChangeSpec := { name := "fnExactInner", fn := fun _ => fun
  | [d1, d2] => { results := [.lit (.bool false)], args := [d1, d2] }
  | _ => none }
def FnExactInnerWrongFalsely : Prop := fnExactInnerRow.holds Try.pinned (OpenSpec.ofChange fnExactInnerWrong)

/-- 'laws.FnExactCross': WHATEVER THE INPUT: true; the input reads as it did. -/
def fnExactCrossSpec : ChangeSpec := { name := "fnExactCross", fn := fun _ => fun
  | [d1, d2] => { results := [.lit (.bool true)], args := [d1, d2] }
  | _ => none }
def fnExactCrossRow : OpenClaim := { program := "ytlpnhcoaidmiiaa", sum := "16cdd3f466d610f834a38617dcc44f83180e8a4cf5763132010903fce635007d", func := "loop.example/g00812/laws.FnExactCross", spec := "fnExactCross", unfollowed := true, recurses := true, apart := false }
def FnExactCrossSaid : Prop := fnExactCrossRow.holds Try.pinned (OpenSpec.ofChange fnExactCrossSpec)

/-- ITS FALSE NEIGHBOUR: 'it returns false'. Refute it at one input. -/
def fnExactCrossWrong : ChangeSpec := { name := "fnExactCross", fn := fun _ => fun
  | [d1, d2] => { results := [.lit (.bool false)], args := [d1, d2] }
  | _ => none }
def FnExactCrossWrongFalsely : Prop := fnExactCrossRow.holds Try.pinned (OpenSpec.ofChange fnExactCrossWrong)

/-- 'laws.FnExactAddPoints': WHATEVER THE INPUT: true; the input reads as it did. -/
def fnExactAddPointsSpec : ChangeSpec := { name := "fnExactAddPoints", fn := fun _ => fun
  | [d1, d2] => { results := [.lit (.bool true)], args := [d1, d2] }
  | _ => none }
def fnExactAddPointsRow : OpenClaim := { program := "ytlpnhcoaidmiiaa", sum := "16cdd3f466d610f834a38617dcc44f83180e8a4cf5763132010903fce635007d", func := "loop.example/g00812/laws.FnExactAddPoints", spec := "fnExactAddPoints", unfollowed := true, recurses := true, apart := false }
def FnExactAddPointsSaid : Prop := fnExactAddPointsRow.holds Try.pinned (OpenSpec.ofChange fnExactAddPointsSpec)

/-- ITS FALSE NEIGHBOUR: 'it returns false'. Refute it at one input. -/
def fnExactAddPointsWrong : ChangeSpec := { name := "fnExactAddPoints", fn := fun _ => fun
  | [d1, d2] => { results := [.lit (.bool false)], args := [d1, d2] }
  | _ => none }
def FnExactAddPointsWrongFalsely : Prop := fnExactAddPointsRow.holds Try.pinned (OpenSpec.ofChange fnExactAddPointsWrong)

/-- 'laws.FnExactSubtractPoints': WHATEVER THE INPUT: true; the input reads as it did. -/
def fnExactSubtractPointsSpec : ChangeSpec := { name := "fnExactSubtractPoints", fn := fun _ => fun
  | [d1, d2] => { results := [.lit (.bool true)], args := [d1, d2] }
  | _ => none }
def fnExactSubtractPointsRow : OpenClaim := { program := "ytlpnhcoaidmiiaa", sum := "16cdd3f466d610f834a38617dcc44f83180e8a4cf5763132010903fce635007d", func := "loop.example/g00812/laws.FnExactSubtractPoints", spec := "fnExactSubtractPoints", unfollowed := true, recurses := true, apart := false }
def FnExactSubtractPointsSaid : Prop := fnExactSubtractPointsRow.holds Try.pinned (OpenSpec.ofChange fnExactSubtractPointsSpec)

/-- ITS FALSE NEIGHBOUR: 'it returns false'. Refute it at one input. -/
def fnExactSubtractPointsWrong : ChangeSpec := { name := "fnExactSubtractPoints", fn := fun _ => fun
  | [d1, d2] => { results := [.lit (.bool false)], args := [d1, d2] }
  | _ => none }
def FnExactSubtractPointsWrongFalsely : Prop := fnExactSubtractPointsRow.holds Try.pinned (OpenSpec.ofChange fnExactSubtractPointsWrong)

/-- 'laws.FnExactDoubleArea': WHATEVER THE INPUT: true; the input reads as it did. -/
def fnExactDoubleAreaSpec : ChangeSpec := { name := "fnExactDoubleArea", fn := fun _ => fun
  | [d1, d2, d3] => { results := [.lit (.bool true)], args := [d1, d2, d3] }
  | _ => none }
def fnExactDoubleAreaRow : OpenClaim := { program := "ytlpnhcoaidmiiaa", sum := "16cdd3f466d610f834a38617dcc44f83180e8a4cf5763132010903fce635007d", func := "loop.example/g00812/laws.FnExactDoubleArea", spec := "fnExactDoubleArea", unfollowed := true, recurses := true, apart := false }
def FnExactDoubleAreaSaid : Prop := fnExactDoubleAreaRow.holds Try.pinned (OpenSpec.ofChange fnExactDoubleAreaSpec)

/-- ITS FALSE NEIGHBOUR: 'it returns false'. Refute it at one input. -/
def fnExactDoubleAreaWrong : ChangeSpec := { name := "fnExactDoubleArea", fn := fun _ => fun
  | [d1, d2, d3] => { results := [.lit (.bool false)], args := [d1, d2, d3] }
  | _ => none }
def FnExactDoubleAreaWrongFalsely : Prop := fnExactDoubleAreaRow.holds Try.pinned (OpenSpec.ofChange fnExactDoubleAreaWrong)

/-- 'laws.FnExactMiddle': WHATEVER THE INPUT: true; the input reads as it did. -/
def fnExactMiddleSpec : ChangeSpec := { name := "fnExactMiddle", fn := fun _ => fun
  | [d1, d2] => { results := [.lit (.bool true)], args := [d1, d2] }
  | _ => none }
def fnExactMiddleRow : OpenClaim := { program := "ytlpnhcoaidmiiaa", sum := "16cdd3f466d610f834a38617dcc44f83180e8a4cf5763132010903fce635007d", func := "loop.example/g00812/laws.FnExactMiddle", spec := "fnExactMiddle", unfollowed := true, recurses := true, apart := false }
def FnExactMiddleSaid : Prop := fnExactMiddleRow.holds Try.pinned (OpenSpec.ofChange fnExactMiddleSpec)

/-- ITS FALSE NEIGHBOUR: 'it returns false'. Refute it at one input. -/
def fnExactMiddleWrong : ChangeSpec := { name := "fnExactMiddle", fn := fun _ => fun
  | [d1, d2] => { results := [.lit (.bool false)], args := [d1, d2] }
  | _ => none }
def FnExactMiddleWrongFalsely : Prop := fnExactMiddleRow.holds Try.pinned (OpenSpec.ofChange fnExactMiddleWrong)

/- THE SECOND FORM. 'bulk': how many values and letters a reading holds, each counted each time it is reached (what is shared counts as often as it is met; a slice's spare places count too). A statement '..UptoSaid' is the law's where the arguments, and the package variables that the reading takes, are together of bulk at most 1048576: NARROWER than '..Said'. Prove '..Said' where nothing that the law and all that it calls make is longer than what came in: it says more and counts as full. Else prove '..UptoSaid'. A law counts once. -/
mutual
def uptoBulk {H : Type} : DataW H → Nat
  | .lit (.string bytes) => bytes.length + 1
  | .lit _ => 1
  | .nil => 1
  | .ptr d => uptoBulk d + 1
  | .slice elems spare => uptoBulkAll elems + uptoBulkAll spare + 1
  | .agg parts => uptoBulkAll parts + 1
  | .iface _ d => uptoBulk d + 1
  | .map entries => uptoBulkEntries entries + 1
  | .held _ => 1
def uptoBulkAll {H : Type} : List (DataW H) → Nat
  | [] => 0
  | d :: r => uptoBulk d + uptoBulkAll r
def uptoBulkEntries {H : Type} : List (Lit × DataW H) → Nat
  | [] => 0
  | x :: r => uptoBulkEntry x + uptoBulkEntries r
def uptoBulkEntry {H : Type} : Lit × DataW H → Nat
  | (.string bytes, d) => bytes.length + uptoBulk d + 1
  | (_, d) => uptoBulk d + 1
 end
def uptoSmall : (H : Type) → List (DataW H) → Bool := fun _ ds => decide (uptoBulkAll ds ≤ 1048576)
def OpenSpec.upto (s : _root_.Go.ChangeSpec) : _root_.Go.OpenSpec := { _root_.Go.OpenSpec.ofChange s with cond := some uptoSmall }

/-- 'laws.FnExactRatFromInt', WHERE WHAT IT READS IS OF BULK AT MOST 1048576: true; the input reads as it did. -/
def fnExactRatFromIntUptoRow : OpenClaim := { program := "ytlpnhcoaidmiiaa", sum := "16cdd3f466d610f834a38617dcc44f83180e8a4cf5763132010903fce635007d", func := "loop.example/g00812/laws.FnExactRatFromInt", spec := "fnExactRatFromInt", unfollowed := true, recurses := true, apart := false, narrowed := true }
def FnExactRatFromIntUptoSaid : Prop := fnExactRatFromIntUptoRow.holds Try.pinned (OpenSpec.upto fnExactRatFromIntSpec)

/-- 'laws.FnExactPointAt', WHERE WHAT IT READS IS OF BULK AT MOST 1048576: true; the input reads as it did. -/
def fnExactPointAtUptoRow : OpenClaim := { program := "ytlpnhcoaidmiiaa", sum := "16cdd3f466d610f834a38617dcc44f83180e8a4cf5763132010903fce635007d", func := "loop.example/g00812/laws.FnExactPointAt", spec := "fnExactPointAt", unfollowed := true, recurses := true, apart := false, narrowed := true }
def FnExactPointAtUptoSaid : Prop := fnExactPointAtUptoRow.holds Try.pinned (OpenSpec.upto fnExactPointAtSpec)

/-- 'laws.FnExactRatOk', WHERE WHAT IT READS IS OF BULK AT MOST 1048576: true; the input reads as it did. -/
def fnExactRatOkUptoRow : OpenClaim := { program := "ytlpnhcoaidmiiaa", sum := "16cdd3f466d610f834a38617dcc44f83180e8a4cf5763132010903fce635007d", func := "loop.example/g00812/laws.FnExactRatOk", spec := "fnExactRatOk", unfollowed := true, recurses := true, apart := false, narrowed := true }
def FnExactRatOkUptoSaid : Prop := fnExactRatOkUptoRow.holds Try.pinned (OpenSpec.upto fnExactRatOkSpec)

/-- 'laws.FnExactRatSign', WHERE WHAT IT READS IS OF BULK AT MOST 1048576: true; the input reads as it did. -/
def fnExactRatSignUptoRow : OpenClaim := { program := "ytlpnhcoaidmiiaa", sum := "16cdd3f466d610f834a38617dcc44f83180e8a4cf5763132010903fce635007d", func := "loop.example/g00812/laws.FnExactRatSign", spec := "fnExactRatSign", unfollowed := true, recurses := true, apart := false, narrowed := true }
def FnExactRatSignUptoSaid : Prop := fnExactRatSignUptoRow.holds Try.pinned (OpenSpec.upto fnExactRatSignSpec)

/-- 'laws.FnExactIsValidPoint', WHERE WHAT IT READS IS OF BULK AT MOST 1048576: true; the input reads as it did. -/
def fnExactIsValidPointUptoRow : OpenClaim := { program := "ytlpnhcoaidmiiaa", sum := "16cdd3f466d610f834a38617dcc44f83180e8a4cf5763132010903fce635007d", func := "loop.example/g00812/laws.FnExactIsValidPoint", spec := "fnExactIsValidPoint", unfollowed := true, recurses := true, apart := false, narrowed := true }
def FnExactIsValidPointUptoSaid : Prop := fnExactIsValidPointUptoRow.holds Try.pinned (OpenSpec.upto fnExactIsValidPointSpec)

/-- 'laws.FnExactRatOf', WHERE WHAT IT READS IS OF BULK AT MOST 1048576: true; the input reads as it did. -/
def fnExactRatOfUptoRow : OpenClaim := { program := "ytlpnhcoaidmiiaa", sum := "16cdd3f466d610f834a38617dcc44f83180e8a4cf5763132010903fce635007d", func := "loop.example/g00812/laws.FnExactRatOf", spec := "fnExactRatOf", unfollowed := true, recurses := true, apart := false, narrowed := true }
def FnExactRatOfUptoSaid : Prop := fnExactRatOfUptoRow.holds Try.pinned (OpenSpec.upto fnExactRatOfSpec)

/-- 'laws.FnExactRatMake', WHERE WHAT IT READS IS OF BULK AT MOST 1048576: true; the input reads as it did. -/
def fnExactRatMakeUptoRow : OpenClaim := { program := "ytlpnhcoaidmiiaa", sum := "16cdd3f466d610f834a38617dcc44f83180e8a4cf5763132010903fce635007d", func := "loop.example/g00812/laws.FnExactRatMake", spec := "fnExactRatMake", unfollowed := true, recurses := true, apart := false, narrowed := true }
def FnExactRatMakeUptoSaid : Prop := fnExactRatMakeUptoRow.holds Try.pinned (OpenSpec.upto fnExactRatMakeSpec)

/-- 'laws.FnExactHalfPoint', WHERE WHAT IT READS IS OF BULK AT MOST 1048576: true; the input reads as it did. -/
def fnExactHalfPointUptoRow : OpenClaim := { program := "ytlpnhcoaidmiiaa", sum := "16cdd3f466d610f834a38617dcc44f83180e8a4cf5763132010903fce635007d", func := "loop.example/g00812/laws.FnExactHalfPoint", spec := "fnExactHalfPoint", unfollowed := true, recurses := true, apart := false, narrowed := true }
def FnExactHalfPointUptoSaid : Prop := fnExactHalfPointUptoRow.holds Try.pinned (OpenSpec.upto fnExactHalfPointSpec)

/-- 'laws.FnExactRatNeg', WHERE WHAT IT READS IS OF BULK AT MOST 1048576: true; the input reads as it did. -/
def fnExactRatNegUptoRow : OpenClaim := { program := "ytlpnhcoaidmiiaa", sum := "16cdd3f466d610f834a38617dcc44f83180e8a4cf5763132010903fce635007d", func := "loop.example/g00812/laws.FnExactRatNeg", spec := "fnExactRatNeg", unfollowed := true, recurses := true, apart := false, narrowed := true }
def FnExactRatNegUptoSaid : Prop := fnExactRatNegUptoRow.holds Try.pinned (OpenSpec.upto fnExactRatNegSpec)

/-- 'laws.FnExactRatCmp', WHERE WHAT IT READS IS OF BULK AT MOST 1048576: true; the input reads as it did. -/
def fnExactRatCmpUptoRow : OpenClaim := { program := "ytlpnhcoaidmiiaa", sum := "16cdd3f466d610f834a38617dcc44f83180e8a4cf5763132010903fce635007d", func := "loop.example/g00812/laws.FnExactRatCmp", spec := "fnExactRatCmp", unfollowed := true, recurses := true, apart := false, narrowed := true }
def FnExactRatCmpUptoSaid : Prop := fnExactRatCmpUptoRow.holds Try.pinned (OpenSpec.upto fnExactRatCmpSpec)

/-- 'laws.FnExactRatMul', WHERE WHAT IT READS IS OF BULK AT MOST 1048576: true; the input reads as it did. -/
def fnExactRatMulUptoRow : OpenClaim := { program := "ytlpnhcoaidmiiaa", sum := "16cdd3f466d610f834a38617dcc44f83180e8a4cf5763132010903fce635007d", func := "loop.example/g00812/laws.FnExactRatMul", spec := "fnExactRatMul", unfollowed := true, recurses := true, apart := false, narrowed := true }
def FnExactRatMulUptoSaid : Prop := fnExactRatMulUptoRow.holds Try.pinned (OpenSpec.upto fnExactRatMulSpec)

/-- 'laws.FnExactRatDiv', WHERE WHAT IT READS IS OF BULK AT MOST 1048576: true; the input reads as it did. -/
def fnExactRatDivUptoRow : OpenClaim := { program := "ytlpnhcoaidmiiaa", sum := "16cdd3f466d610f834a38617dcc44f83180e8a4cf5763132010903fce635007d", func := "loop.example/g00812/laws.FnExactRatDiv", spec := "fnExactRatDiv", unfollowed := true, recurses := true, apart := false, narrowed := true }
def FnExactRatDivUptoSaid : Prop := fnExactRatDivUptoRow.holds Try.pinned (OpenSpec.upto fnExactRatDivSpec)

/-- 'laws.FnExactRatMax', WHERE WHAT IT READS IS OF BULK AT MOST 1048576: true; the input reads as it did. -/
def fnExactRatMaxUptoRow : OpenClaim := { program := "ytlpnhcoaidmiiaa", sum := "16cdd3f466d610f834a38617dcc44f83180e8a4cf5763132010903fce635007d", func := "loop.example/g00812/laws.FnExactRatMax", spec := "fnExactRatMax", unfollowed := true, recurses := true, apart := false, narrowed := true }
def FnExactRatMaxUptoSaid : Prop := fnExactRatMaxUptoRow.holds Try.pinned (OpenSpec.upto fnExactRatMaxSpec)

/-- 'laws.FnExactRatMin', WHERE WHAT IT READS IS OF BULK AT MOST 1048576: true; the input reads as it did. -/
def fnExactRatMinUptoRow : OpenClaim := { program := "ytlpnhcoaidmiiaa", sum := "16cdd3f466d610f834a38617dcc44f83180e8a4cf5763132010903fce635007d", func := "loop.example/g00812/laws.FnExactRatMin", spec := "fnExactRatMin", unfollowed := true, recurses := true, apart := false, narrowed := true }
def FnExactRatMinUptoSaid : Prop := fnExactRatMinUptoRow.holds Try.pinned (OpenSpec.upto fnExactRatMinSpec)

/-- 'laws.FnExactScalePoint', WHERE WHAT IT READS IS OF BULK AT MOST 1048576: true; the input reads as it did. -/
def fnExactScalePointUptoRow : OpenClaim := { program := "ytlpnhcoaidmiiaa", sum := "16cdd3f466d610f834a38617dcc44f83180e8a4cf5763132010903fce635007d", func := "loop.example/g00812/laws.FnExactScalePoint", spec := "fnExactScalePoint", unfollowed := true, recurses := true, apart := false, narrowed := true }
def FnExactScalePointUptoSaid : Prop := fnExactScalePointUptoRow.holds Try.pinned (OpenSpec.upto fnExactScalePointSpec)

/-- 'laws.FnExactRatAdd', WHERE WHAT IT READS IS OF BULK AT MOST 1048576: true; the input reads as it did. -/
def fnExactRatAddUptoRow : OpenClaim := { program := "ytlpnhcoaidmiiaa", sum := "16cdd3f466d610f834a38617dcc44f83180e8a4cf5763132010903fce635007d", func := "loop.example/g00812/laws.FnExactRatAdd", spec := "fnExactRatAdd", unfollowed := true, recurses := true, apart := false, narrowed := true }
def FnExactRatAddUptoSaid : Prop := fnExactRatAddUptoRow.holds Try.pinned (OpenSpec.upto fnExactRatAddSpec)

/-- 'laws.FnExactRatSub', WHERE WHAT IT READS IS OF BULK AT MOST 1048576: true; the input reads as it did. -/
def fnExactRatSubUptoRow : OpenClaim := { program := "ytlpnhcoaidmiiaa", sum := "16cdd3f466d610f834a38617dcc44f83180e8a4cf5763132010903fce635007d", func := "loop.example/g00812/laws.FnExactRatSub", spec := "fnExactRatSub", unfollowed := true, recurses := true, apart := false, narrowed := true }
def FnExactRatSubUptoSaid : Prop := fnExactRatSubUptoRow.holds Try.pinned (OpenSpec.upto fnExactRatSubSpec)

/-- 'laws.FnExactInner', WHERE WHAT IT READS IS OF BULK AT MOST 1048576: true; the input reads as it did. -/
def fnExactInnerUptoRow : OpenClaim := { program := "ytlpnhcoaidmiiaa", sum := "16cdd3f466d610f834a38617dcc44f83180e8a4cf5763132010903fce635007d", func := "loop.example/g00812/laws.FnExactInner", spec := "fnExactInner", unfollowed := true, recurses := true, apart := false, narrowed := true }
def FnExactInnerUptoSaid : Prop := fnExactInnerUptoRow.holds Try.pinned (OpenSpec.upto fnExactInnerSpec)

/-- 'laws.FnExactCross', WHERE WHAT IT READS IS OF BULK AT MOST 1048576: true; the input reads as it did. -/
def fnExactCrossUptoRow : OpenClaim := { program := "ytlpnhcoaidmiiaa", sum := "16cdd3f466d610f834a38617dcc44f83180e8a4cf5763132010903fce635007d", func := "loop.example/g00812/laws.FnExactCross", spec := "fnExactCross", unfollowed := true, recurses := true, apart := false, narrowed := true }
def FnExactCrossUptoSaid : Prop := fnExactCrossUptoRow.holds Try.pinned (OpenSpec.upto fnExactCrossSpec)

/-- 'laws.FnExactAddPoints', WHERE WHAT IT READS IS OF BULK AT MOST 1048576: true; the input reads as it did. -/
def fnExactAddPointsUptoRow : OpenClaim := { program := "ytlpnhcoaidmiiaa", sum := "16cdd3f466d610f834a38617dcc44f83180e8a4cf5763132010903fce635007d", func := "loop.example/g00812/laws.FnExactAddPoints", spec := "fnExactAddPoints", unfollowed := true, recurses := true, apart := false, narrowed := true }
def FnExactAddPointsUptoSaid : Prop := fnExactAddPointsUptoRow.holds Try.pinned (OpenSpec.upto fnExactAddPointsSpec)

/-- 'laws.FnExactSubtractPoints', WHERE WHAT IT READS IS OF BULK AT MOST 1048576: true; the input reads as it did. -/
def fnExactSubtractPointsUptoRow : OpenClaim := { program := "ytlpnhcoaidmiiaa", sum := "16cdd3f466d610f834a38617dcc44f83180e8a4cf5763132010903fce635007d", func := "loop.example/g00812/laws.FnExactSubtractPoints", spec := "fnExactSubtractPoints", unfollowed := true, recurses := true, apart := false, narrowed := true }
def FnExactSubtractPointsUptoSaid : Prop := fnExactSubtractPointsUptoRow.holds Try.pinned (OpenSpec.upto fnExactSubtractPointsSpec)

/-- 'laws.FnExactDoubleArea', WHERE WHAT IT READS IS OF BULK AT MOST 1048576: true; the input reads as it did. -/
def fnExactDoubleAreaUptoRow : OpenClaim := { program := "ytlpnhcoaidmiiaa", sum := "16cdd3f466d610f834a38617dcc44f83180e8a4cf5763132010903fce635007d", func := "loop.example/g00812/laws.FnExactDoubleArea", spec := "fnExactDoubleArea", unfollowed := true, recurses := true, apart := false, narrowed := true }
def FnExactDoubleAreaUptoSaid : Prop := fnExactDoubleAreaUptoRow.holds Try.pinned (OpenSpec.upto fnExactDoubleAreaSpec)

/-- 'laws.FnExactMiddle', WHERE WHAT IT READS IS OF BULK AT MOST 1048576: true; the input reads as it did. -/
def fnExactMiddleUptoRow : OpenClaim := { program := "ytlpnhcoaidmiiaa", sum := "16cdd3f466d610f834a38617dcc44f83180e8a4cf5763132010903fce635007d", func := "loop.example/g00812/laws.FnExactMiddle", spec := "fnExactMiddle", unfollowed := true, recurses := true, apart := false, narrowed := true }
def FnExactMiddleUptoSaid : Prop := fnExactMiddleUptoRow.holds Try.pinned (OpenSpec.upto fnExactMiddleSpec)

end Rows
end Go.Proofs.Ytlpnhcoaidmiiaa
