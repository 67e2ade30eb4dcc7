/-
  No cell of these rows narrows 'for every input' (looked for: loops, veiled, ifaces, maps, wideKeys, modest, calm, conditions, laid).
  DERIVED. THE GIVEN ROWS OF THIS SEAT. 11 by the template 'for every input the law returns true; each argument reads behind the call as it read before'; 0 by the template 'total and deterministic' (their statements: YtcbamiablkbeoaaTotals.lean).
  GIVEN WITH THE SEED: the statements are not yours to turn. If you find one false, say at which input.
  Laid BY PROGRAM, IN A SANDBOX (cutbox-rows.mjs): the forced cells as the released guide's own fill.sh prints them over the translation c68a483fa1b9b60d… (all of the seat's roots in one cut). By AI agents, Wed Nov 11 2026. No macro, syntax, notation, axiom, sorry.
-/
import Derived.Test.YtcbamiablkbeoaaChecked
import GoSem.Claim
import GoSem.ClaimJoined
import GoSem.ClaimMapViews
import Derived.JoinedTies
import Derived.KernelRfl
namespace Go.Proofs.Ytcbamiablkbeoaa
/- THE CELL 'sum', in the pinned program and in every row, IS THE sha256 OF THE DUMP (.gsa) THAT YtcbamiablkbeoaaProg.lean LOADS. Nothing in Lean hashes anything: it is a label: what it is worth is what the hold of that sum in a sandbox is worth. -/
noncomputable def Try.pinned : Pinned := { name := "ytcbamiablkbeoaa", sum := "c68a483fa1b9b60df20e3dc0bd4050cdae016f043b63a15bed7001f225ec36d5", checked := Try.checked }
namespace Rows
def none {H : Type} : Left H := { results := [], args := [] }

/-- 'laws.FnExactSplitAny': WHATEVER THE INPUT: true; the input reads as it did. -/
def fnExactSplitAnySpec : ChangeSpec := { name := "fnExactSplitAny", fn := fun _ => fun
  | [d1, d2] => { results := [.lit (.bool true)], args := [d1, d2] }
  | _ => none }
def fnExactSplitAnyRow : OpenClaim := { program := "ytcbamiablkbeoaa", sum := "c68a483fa1b9b60df20e3dc0bd4050cdae016f043b63a15bed7001f225ec36d5", func := "loop.example/g00812/laws.FnExactSplitAny", spec := "fnExactSplitAny", inPlace := ["internal/bytealg.IndexByteString"], apart := false }
def FnExactSplitAnySaid : Prop := fnExactSplitAnyRow.holds Try.pinned (OpenSpec.ofChange fnExactSplitAnySpec)

/-- ITS FALSE NEIGHBOUR: 'it returns false'. Refute it at one input. -/
def fnExactSplitAnyWrong : ChangeSpec := { name := "fnExactSplitAny", fn := fun _ => fun
  | [d1, d2] => { results := [.lit (.bool false)], args := [d1, d2] }
  | _ => none }
def FnExactSplitAnyWrongFalsely : Prop := fnExactSplitAnyRow.holds Try.pinned (OpenSpec.ofChange fnExactSplitAnyWrong)

/-- 'laws.FnExactNatToInt': WHATEVER THE INPUT: true; the input reads as it did. -/
def fnExactNatToIntSpec : ChangeSpec := { name := "fnExactNatToInt", fn := fun _ => fun
  | [d] => { results := [.lit (.bool true)], args := [d] }
  | _ => none }
def fnExactNatToIntRow : OpenClaim := { program := "ytcbamiablkbeoaa", sum := "c68a483fa1b9b60df20e3dc0bd4050cdae016f043b63a15bed7001f225ec36d5", func := "loop.example/g00812/laws.FnExactNatToInt", spec := "fnExactNatToInt", unfollowed := true, recurses := true, apart := false }
def FnExactNatToIntSaid : Prop := fnExactNatToIntRow.holds Try.pinned (OpenSpec.ofChange fnExactNatToIntSpec)

/-- ITS FALSE NEIGHBOUR: 'it returns false'. Refute it at one input. -/
def fnExactNatToIntWrong : ChangeSpec := { name := "fnExactNatToInt", fn := fun _ => fun
  | [d] => { results := [.lit (.bool false)], args := [d] }
  | _ => none }
def FnExactNatToIntWrongFalsely : Prop := fnExactNatToIntRow.holds Try.pinned (OpenSpec.ofChange fnExactNatToIntWrong)

/-- 'laws.FnExactRatEqual': WHATEVER THE INPUT: true; the input reads as it did. -/
def fnExactRatEqualSpec : ChangeSpec := { name := "fnExactRatEqual", fn := fun _ => fun
  | [d1, d2] => { results := [.lit (.bool true)], args := [d1, d2] }
  | _ => none }
def fnExactRatEqualRow : OpenClaim := { program := "ytcbamiablkbeoaa", sum := "c68a483fa1b9b60df20e3dc0bd4050cdae016f043b63a15bed7001f225ec36d5", func := "loop.example/g00812/laws.FnExactRatEqual", spec := "fnExactRatEqual", apart := false }
def FnExactRatEqualSaid : Prop := fnExactRatEqualRow.holds Try.pinned (OpenSpec.ofChange fnExactRatEqualSpec)

/-- ITS FALSE NEIGHBOUR: 'it returns false'. Refute it at one input. -/
def fnExactRatEqualWrong : ChangeSpec := { name := "fnExactRatEqual", fn := fun _ => fun
  | [d1, d2] => { results := [.lit (.bool false)], args := [d1, d2] }
  | _ => none }
def FnExactRatEqualWrongFalsely : Prop := fnExactRatEqualRow.holds Try.pinned (OpenSpec.ofChange fnExactRatEqualWrong)

/-- 'laws.FnExactSamePoint': WHATEVER THE INPUT: true; the input reads as it did. -/
def fnExactSamePointSpec : ChangeSpec := { name := "fnExactSamePoint", fn := fun _ => fun
  | [d1, d2] => { results := [.lit (.bool true)], args := [d1, d2] }
  | _ => none }
def fnExactSamePointRow : OpenClaim := { program := "ytcbamiablkbeoaa", sum := "c68a483fa1b9b60df20e3dc0bd4050cdae016f043b63a15bed7001f225ec36d5", func := "loop.example/g00812/laws.FnExactSamePoint", spec := "fnExactSamePoint", apart := false }
def FnExactSamePointSaid : Prop := fnExactSamePointRow.holds Try.pinned (OpenSpec.ofChange fnExactSamePointSpec)

/-- ITS FALSE NEIGHBOUR: 'it returns false'. Refute it at one input. -/
def fnExactSamePointWrong : ChangeSpec := { name := "fnExactSamePoint", fn := fun _ => fun
  | [d1, d2] => { results := [.lit (.bool false)], args := [d1, d2] }
  | _ => none }
def FnExactSamePointWrongFalsely : Prop := fnExactSamePointRow.holds Try.pinned (OpenSpec.ofChange fnExactSamePointWrong)

/-- 'laws.FnExactBigIntToInt': WHATEVER THE INPUT: true; the input reads as it did. -/
def fnExactBigIntToIntSpec : ChangeSpec := { name := "fnExactBigIntToInt", fn := fun _ => fun
  | [d] => { results := [.lit (.bool true)], args := [d] }
  | _ => none }
def fnExactBigIntToIntRow : OpenClaim := { program := "ytcbamiablkbeoaa", sum := "c68a483fa1b9b60df20e3dc0bd4050cdae016f043b63a15bed7001f225ec36d5", func := "loop.example/g00812/laws.FnExactBigIntToInt", spec := "fnExactBigIntToInt", unfollowed := true, recurses := true, apart := false }
def FnExactBigIntToIntSaid : Prop := fnExactBigIntToIntRow.holds Try.pinned (OpenSpec.ofChange fnExactBigIntToIntSpec)

/-- ITS FALSE NEIGHBOUR: 'it returns false'. Refute it at one input. -/
def fnExactBigIntToIntWrong : ChangeSpec := { name := "fnExactBigIntToInt", fn := fun _ => fun
  | [d] => { results := [.lit (.bool false)], args := [d] }
  | _ => none }
def FnExactBigIntToIntWrongFalsely : Prop := fnExactBigIntToIntRow.holds Try.pinned (OpenSpec.ofChange fnExactBigIntToIntWrong)

/-- 'laws.FnExactBigIntMul': WHATEVER THE INPUT: true; the input reads as it did. -/
def fnExactBigIntMulSpec : ChangeSpec := { name := "fnExactBigIntMul", fn := fun _ => fun
  | [d1, d2] => { results := [.lit (.bool true)], args := [d1, d2] }
  | _ => none }
def fnExactBigIntMulRow : OpenClaim := { program := "ytcbamiablkbeoaa", sum := "c68a483fa1b9b60df20e3dc0bd4050cdae016f043b63a15bed7001f225ec36d5", func := "loop.example/g00812/laws.FnExactBigIntMul", spec := "fnExactBigIntMul", unfollowed := true, recurses := true, apart := false }
def FnExactBigIntMulSaid : Prop := fnExactBigIntMulRow.holds Try.pinned (OpenSpec.ofChange fnExactBigIntMulSpec)

/-- ITS FALSE NEIGHBOUR: 'it returns false'. Refute it at one input. -/
def fnExactBigIntMulWrong : ChangeSpec := { name := "fnExactBigIntMul", fn := fun _ => fun
  | [d1, d2] => { results := [.lit (.bool false)], args := [d1, d2] }
  | _ => none }
def FnExactBigIntMulWrongFalsely : Prop := fnExactBigIntMulRow.holds Try.pinned (OpenSpec.ofChange fnExactBigIntMulWrong)

/-- 'laws.FnExactBigIntAdd': WHATEVER THE INPUT: true; the input reads as it did. -/
def fnExactBigIntAddSpec : ChangeSpec := { name := "fnExactBigIntAdd", fn := fun _ => fun
  | [d1, d2] => { results := [.lit (.bool true)], args := [d1, d2] }
  | _ => none }
def fnExactBigIntAddRow : OpenClaim := { program := "ytcbamiablkbeoaa", sum := "c68a483fa1b9b60df20e3dc0bd4050cdae016f043b63a15bed7001f225ec36d5", func := "loop.example/g00812/laws.FnExactBigIntAdd", spec := "fnExactBigIntAdd", unfollowed := true, recurses := true, apart := false }
def FnExactBigIntAddSaid : Prop := fnExactBigIntAddRow.holds Try.pinned (OpenSpec.ofChange fnExactBigIntAddSpec)

/-- ITS FALSE NEIGHBOUR: 'it returns false'. Refute it at one input. -/
def fnExactBigIntAddWrong : ChangeSpec := { name := "fnExactBigIntAdd", fn := fun _ => fun
  | [d1, d2] => { results := [.lit (.bool false)], args := [d1, d2] }
  | _ => none }
def FnExactBigIntAddWrongFalsely : Prop := fnExactBigIntAddRow.holds Try.pinned (OpenSpec.ofChange fnExactBigIntAddWrong)

/-- 'laws.FnExactBigIntSub': WHATEVER THE INPUT: true; the input reads as it did. -/
def fnExactBigIntSubSpec : ChangeSpec := { name := "fnExactBigIntSub", fn := fun _ => fun
  | [d1, d2] => { results := [.lit (.bool true)], args := [d1, d2] }
  | _ => none }
def fnExactBigIntSubRow : OpenClaim := { program := "ytcbamiablkbeoaa", sum := "c68a483fa1b9b60df20e3dc0bd4050cdae016f043b63a15bed7001f225ec36d5", func := "loop.example/g00812/laws.FnExactBigIntSub", spec := "fnExactBigIntSub", unfollowed := true, recurses := true, apart := false }
def FnExactBigIntSubSaid : Prop := fnExactBigIntSubRow.holds Try.pinned (OpenSpec.ofChange fnExactBigIntSubSpec)

/-- ITS FALSE NEIGHBOUR: 'it returns false'. Refute it at one input. -/
def fnExactBigIntSubWrong : ChangeSpec := { name := "fnExactBigIntSub", fn := fun _ => fun
  | [d1, d2] => { results := [.lit (.bool false)], args := [d1, d2] }
  | _ => none }
def FnExactBigIntSubWrongFalsely : Prop := fnExactBigIntSubRow.holds Try.pinned (OpenSpec.ofChange fnExactBigIntSubWrong)

/-- 'laws.FnExactNatDiv': WHATEVER THE INPUT: true; the input reads as it did. -/
def fnExactNatDivSpec : ChangeSpec := { name := "fnExactNatDiv", fn := fun _ => fun
  | [d1, d2] => { results := [.lit (.bool true)], args := [d1, d2] }
  | _ => none }
def fnExactNatDivRow : OpenClaim := { program := "ytcbamiablkbeoaa", sum := "c68a483fa1b9b60df20e3dc0bd4050cdae016f043b63a15bed7001f225ec36d5", func := "loop.example/g00812/laws.FnExactNatDiv", spec := "fnExactNatDiv", unfollowed := true, recurses := true, apart := false }
def FnExactNatDivSaid : Prop := fnExactNatDivRow.holds Try.pinned (OpenSpec.ofChange fnExactNatDivSpec)

/-- ITS FALSE NEIGHBOUR: 'it returns false'. Refute it at one input. -/
def fnExactNatDivWrong : ChangeSpec := { name := "fnExactNatDiv", fn := fun _ => fun
  | [d1, d2] => { results := [.lit (.bool false)], args := [d1, d2] }
  | _ => none }
def FnExactNatDivWrongFalsely : Prop := fnExactNatDivRow.holds Try.pinned (OpenSpec.ofChange fnExactNatDivWrong)

/-- 'laws.FnExactNatGcd': WHATEVER THE INPUT: true; the input reads as it did. -/
def fnExactNatGcdSpec : ChangeSpec := { name := "fnExactNatGcd", fn := fun _ => fun
  | [d1, d2] => { results := [.lit (.bool true)], args := [d1, d2] }
  | _ => none }
def fnExactNatGcdRow : OpenClaim := { program := "ytcbamiablkbeoaa", sum := "c68a483fa1b9b60df20e3dc0bd4050cdae016f043b63a15bed7001f225ec36d5", func := "loop.example/g00812/laws.FnExactNatGcd", spec := "fnExactNatGcd", unfollowed := true, recurses := true, apart := false }
def FnExactNatGcdSaid : Prop := fnExactNatGcdRow.holds Try.pinned (OpenSpec.ofChange fnExactNatGcdSpec)

/-- ITS FALSE NEIGHBOUR: 'it returns false'. Refute it at one input. -/
def fnExactNatGcdWrong : ChangeSpec := { name := "fnExactNatGcd", fn := fun _ => fun
  | [d1, d2] => { results := [.lit (.bool false)], args := [d1, d2] }
  | _ => none }
def FnExactNatGcdWrongFalsely : Prop := fnExactNatGcdRow.holds Try.pinned (OpenSpec.ofChange fnExactNatGcdWrong)

/-- 'laws.FnExactBigIntFloorDiv': WHATEVER THE INPUT: true; the input reads as it did. -/
def fnExactBigIntFloorDivSpec : ChangeSpec := { name := "fnExactBigIntFloorDiv", fn := fun _ => fun
  | [d1, d2] => { results := [.lit (.bool true)], args := [d1, d2] }
  | _ => none }
def fnExactBigIntFloorDivRow : OpenClaim := { program := "ytcbamiablkbeoaa", sum := "c68a483fa1b9b60df20e3dc0bd4050cdae016f043b63a15bed7001f225ec36d5", func := "loop.example/g00812/laws.FnExactBigIntFloorDiv", spec := "fnExactBigIntFloorDiv", unfollowed := true, recurses := true, apart := false }
def FnExactBigIntFloorDivSaid : Prop := fnExactBigIntFloorDivRow.holds Try.pinned (OpenSpec.ofChange fnExactBigIntFloorDivSpec)

/-- ITS FALSE NEIGHBOUR: 'it returns false'. Refute it at one input. -/
def fnExactBigIntFloorDivWrong : ChangeSpec := { name := "fnExactBigIntFloorDiv", fn := fun _ => fun
  | [d1, d2] => { results := [.lit (.bool false)], args := [d1, d2] }
  | _ => none }
def FnExactBigIntFloorDivWrongFalsely : Prop := fnExactBigIntFloorDivRow.holds Try.pinned (OpenSpec.ofChange fnExactBigIntFloorDivWrong)

/- THE SECOND FORM. 'bulk': how many values and letters a reading holds, each counted each time it is reached (what is shared counts as often as it is met; a slice's spare places count too). A statement '..UptoSaid' is the law's where the arguments, and the package variables that the reading takes, are together of bulk at most 1048576: NARROWER than '..Said'. Prove '..Said' where nothing that the law and all that it calls make is longer than what came in: it says more and counts as full. Else prove '..UptoSaid'. A law counts once. -/
mutual
def uptoBulk {H : Type} : DataW H → Nat
  | .lit (.string bytes) => bytes.length + 1
  | .lit _ => 1
  | .nil => 1
  | .ptr d => uptoBulk d + 1
  | .slice elems spare => uptoBulkAll elems + uptoBulkAll spare + 1
  | .agg parts => uptoBulkAll parts + 1
  | .iface _ d => uptoBulk d + 1
  | .map entries => uptoBulkEntries entries + 1
  | .held _ => 1
def uptoBulkAll {H : Type} : List (DataW H) → Nat
  | [] => 0
  | d :: r => uptoBulk d + uptoBulkAll r
def uptoBulkEntries {H : Type} : List (Lit × DataW H) → Nat
  | [] => 0
  | x :: r => uptoBulkEntry x + uptoBulkEntries r
def uptoBulkEntry {H : Type} : Lit × DataW H → Nat
  | (.string bytes, d) => bytes.length + uptoBulk d + 1
  | (_, d) => uptoBulk d + 1
 end
def uptoSmall : (H : Type) → List (DataW H) → Bool := fun _ ds => decide (uptoBulkAll ds ≤ 1048576)
def OpenSpec.upto (s : _root_.Go.ChangeSpec) : _root_.Go.OpenSpec := { _root_.Go.OpenSpec.ofChange s with cond := some uptoSmall }

/-- 'laws.FnExactSplitAny', WHERE WHAT IT READS IS OF BULK AT MOST 1048576: true; the input reads as it did. -/
def fnExactSplitAnyUptoRow : OpenClaim := { program := "ytcbamiablkbeoaa", sum := "c68a483fa1b9b60df20e3dc0bd4050cdae016f043b63a15bed7001f225ec36d5", func := "loop.example/g00812/laws.FnExactSplitAny", spec := "fnExactSplitAny", inPlace := ["internal/bytealg.IndexByteString"], apart := false, narrowed := true }
def FnExactSplitAnyUptoSaid : Prop := fnExactSplitAnyUptoRow.holds Try.pinned (OpenSpec.upto fnExactSplitAnySpec)

/-- 'laws.FnExactNatToInt', WHERE WHAT IT READS IS OF BULK AT MOST 1048576: true; the input reads as it did. -/
def fnExactNatToIntUptoRow : OpenClaim := { program := "ytcbamiablkbeoaa", sum := "c68a483fa1b9b60df20e3dc0bd4050cdae016f043b63a15bed7001f225ec36d5", func := "loop.example/g00812/laws.FnExactNatToInt", spec := "fnExactNatToInt", unfollowed := true, recurses := true, apart := false, narrowed := true }
def FnExactNatToIntUptoSaid : Prop := fnExactNatToIntUptoRow.holds Try.pinned (OpenSpec.upto fnExactNatToIntSpec)

/-- 'laws.FnExactRatEqual', WHERE WHAT IT READS IS OF BULK AT MOST 1048576: true; the input reads as it did. -/
def fnExactRatEqualUptoRow : OpenClaim := { program := "ytcbamiablkbeoaa", sum := "c68a483fa1b9b60df20e3dc0bd4050cdae016f043b63a15bed7001f225ec36d5", func := "loop.example/g00812/laws.FnExactRatEqual", spec := "fnExactRatEqual", apart := false, narrowed := true }
def FnExactRatEqualUptoSaid : Prop := fnExactRatEqualUptoRow.holds Try.pinned (OpenSpec.upto fnExactRatEqualSpec)

/-- 'laws.FnExactSamePoint', WHERE WHAT IT READS IS OF BULK AT MOST 1048576: true; the input reads as it did. -/
def fnExactSamePointUptoRow : OpenClaim := { program := "ytcbamiablkbeoaa", sum := "c68a483fa1b9b60df20e3dc0bd4050cdae016f043b63a15bed7001f225ec36d5", func := "loop.example/g00812/laws.FnExactSamePoint", spec := "fnExactSamePoint", apart := false, narrowed := true }
def FnExactSamePointUptoSaid : Prop := fnExactSamePointUptoRow.holds Try.pinned (OpenSpec.upto fnExactSamePointSpec)

/-- 'laws.FnExactBigIntToInt', WHERE WHAT IT READS IS OF BULK AT MOST 1048576: true; the input reads as it did. -/
def fnExactBigIntToIntUptoRow : OpenClaim := { program := "ytcbamiablkbeoaa", sum := "c68a483fa1b9b60df20e3dc0bd4050cdae016f043b63a15bed7001f225ec36d5", func := "loop.example/g00812/laws.FnExactBigIntToInt", spec := "fnExactBigIntToInt", unfollowed := true, recurses := true, apart := false, narrowed := true }
def FnExactBigIntToIntUptoSaid : Prop := fnExactBigIntToIntUptoRow.holds Try.pinned (OpenSpec.upto fnExactBigIntToIntSpec)

/-- 'laws.FnExactBigIntMul', WHERE WHAT IT READS IS OF BULK AT MOST 1048576: true; the input reads as it did. -/
def fnExactBigIntMulUptoRow : OpenClaim := { program := "ytcbamiablkbeoaa", sum := "c68a483fa1b9b60df20e3dc0bd4050cdae016f043b63a15bed7001f225ec36d5", func := "loop.example/g00812/laws.FnExactBigIntMul", spec := "fnExactBigIntMul", unfollowed := true, recurses := true, apart := false, narrowed := true }
def FnExactBigIntMulUptoSaid : Prop := fnExactBigIntMulUptoRow.holds Try.pinned (OpenSpec.upto fnExactBigIntMulSpec)

/-- 'laws.FnExactBigIntAdd', WHERE WHAT IT READS IS OF BULK AT MOST 1048576: true; the input reads as it did. -/
def fnExactBigIntAddUptoRow : OpenClaim := { program := "ytcbamiablkbeoaa", sum := "c68a483fa1b9b60df20e3dc0bd4050cdae016f043b63a15bed7001f225ec36d5", func := "loop.example/g00812/laws.FnExactBigIntAdd", spec := "fnExactBigIntAdd", unfollowed := true, recurses := true, apart := false, narrowed := true }
def FnExactBigIntAddUptoSaid : Prop := fnExactBigIntAddUptoRow.holds Try.pinned (OpenSpec.upto fnExactBigIntAddSpec)

/-- 'laws.FnExactBigIntSub', WHERE WHAT IT READS IS OF BULK AT MOST 1048576: true; the input reads as it did. -/
def fnExactBigIntSubUptoRow : OpenClaim := { program := "ytcbamiablkbeoaa", sum := "c68a483fa1b9b60df20e3dc0bd4050cdae016f043b63a15bed7001f225ec36d5", func := "loop.example/g00812/laws.FnExactBigIntSub", spec := "fnExactBigIntSub", unfollowed := true, recurses := true, apart := false, narrowed := true }
def FnExactBigIntSubUptoSaid : Prop := fnExactBigIntSubUptoRow.holds Try.pinned (OpenSpec.upto fnExactBigIntSubSpec)

/-- 'laws.FnExactNatDiv', WHERE WHAT IT READS IS OF BULK AT MOST 1048576: true; the input reads as it did. -/
def fnExactNatDivUptoRow : OpenClaim := { program := "ytcbamiablkbeoaa", sum := "c68a483fa1b9b60df20e3dc0bd4050cdae016f043b63a15bed7001f225ec36d5", func := "loop.example/g00812/laws.FnExactNatDiv", spec := "fnExactNatDiv", unfollowed := true, recurses := true, apart := false, narrowed := true }
def FnExactNatDivUptoSaid : Prop := fnExactNatDivUptoRow.holds Try.pinned (OpenSpec.upto fnExactNatDivSpec)

/-- 'laws.FnExactNatGcd', WHERE WHAT IT READS IS OF BULK AT MOST 1048576: true; the input reads as it did. -/
def fnExactNatGcdUptoRow : OpenClaim := { program := "ytcbamiablkbeoaa", sum := "c68a483fa1b9b60df20e3dc0bd4050cdae016f043b63a15bed7001f225ec36d5", func := "loop.example/g00812/laws.FnExactNatGcd", spec := "fnExactNatGcd", unfollowed := true, recurses := true, apart := false, narrowed := true }
def FnExactNatGcdUptoSaid : Prop := fnExactNatGcdUptoRow.holds Try.pinned (OpenSpec.upto fnExactNatGcdSpec)

/-- 'laws.FnExactBigIntFloorDiv', WHERE WHAT IT READS IS OF BULK AT MOST 1048576: true; the input reads as it did. -/
def fnExactBigIntFloorDivUptoRow : OpenClaim := { program := "ytcbamiablkbeoaa", sum := "c68a483fa1b9b60df20e3dc0bd4050cdae016f043b63a15bed7001f225ec36d5", func := "loop.example/g00812/laws.FnExactBigIntFloorDiv", spec := "fnExactBigIntFloorDiv", unfollowed := true, recurses := true, apart := false, narrowed := true }
def FnExactBigIntFloorDivUptoSaid : Prop := fnExactBigIntFloorDivUptoRow.holds Try.pinned (OpenSpec.upto fnExactBigIntFloorDivSpec)

end Rows
end Go.Proofs.Ytcbamiablkbeoaa
