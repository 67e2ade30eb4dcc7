/-
  No cell of these rows narrows 'for every input' (looked for: loops, veiled, ifaces, maps, wideKeys, modest, calm, conditions, laid).
  DERIVED. THE GIVEN ROWS OF THIS SEAT. 6 by the template 'for every input the law returns true; each argument reads behind the call as it read before'; 0 by the template 'total and deterministic' (their statements: YtanlkmhhecoabaaTotals.lean).
  GIVEN WITH THE SEED: the statements are not yours to turn. If you find one false, say at which input.
  Laid BY PROGRAM, IN A SANDBOX (cutbox-rows.mjs): the forced cells as the released guide's own fill.sh prints them over the translation d8b4ce2b8112333b… (all of the seat's roots in one cut). By AI agents, Wed Nov 11 2026. No macro, syntax, notation, axiom, sorry.
-/
import Derived.Test.YtanlkmhhecoabaaChecked
import GoSem.Claim
import GoSem.ClaimJoined
import GoSem.ClaimMapViews
import Derived.JoinedTies
import Derived.KernelRfl
namespace Go.Proofs.Ytanlkmhhecoabaa
/- THE CELL 'sum', in the pinned program and in every row, IS THE sha256 OF THE DUMP (.gsa) THAT YtanlkmhhecoabaaProg.lean LOADS. Nothing in Lean hashes anything: it is a label: what it is worth is what the hold of that sum in a sandbox is worth. -/
noncomputable def Try.pinned : Pinned := { name := "ytanlkmhhecoabaa", sum := "d8b4ce2b8112333b509f036c7b83226003be7ea6c4fe99193ce3a00f1f9fc519", checked := Try.checked }
namespace Rows
def none {H : Type} : Left H := { results := [], args := [] }

/-- 'laws.FnExactConstants': WHATEVER THE INPUT: true; the input reads as it did. -/
def fnExactConstantsSpec : ChangeSpec := { name := "fnExactConstants", fn := fun _ => fun
  | [] => { results := [.lit (.bool true)], args := [] }
  | _ => none }
def fnExactConstantsRow : OpenClaim := { program := "ytanlkmhhecoabaa", sum := "d8b4ce2b8112333b509f036c7b83226003be7ea6c4fe99193ce3a00f1f9fc519", func := "loop.example/g00812/laws.FnExactConstants", spec := "fnExactConstants", apart := false }
def FnExactConstantsSaid : Prop := fnExactConstantsRow.holds Try.pinned (OpenSpec.ofChange fnExactConstantsSpec)

/-- ITS FALSE NEIGHBOUR: 'it returns false'. Refute it at one input. -/
def fnExactConstantsWrong : ChangeSpec := { name := "fnExactConstants", fn := fun _ => fun
  | [] => { results := [.lit (.bool false)], args := [] }
  | _ => none }
def FnExactConstantsWrongFalsely : Prop := fnExactConstantsRow.holds Try.pinned (OpenSpec.ofChange fnExactConstantsWrong)

/-- 'laws.FnExactIsDigits': WHATEVER THE INPUT: true; the input reads as it did. -/
def fnExactIsDigitsSpec : ChangeSpec := { name := "fnExactIsDigits", fn := fun _ => fun
  | [d] => { results := [.lit (.bool true)], args := [d] }
  | _ => none }
def fnExactIsDigitsRow : OpenClaim := { program := "ytanlkmhhecoabaa", sum := "d8b4ce2b8112333b509f036c7b83226003be7ea6c4fe99193ce3a00f1f9fc519", func := "loop.example/g00812/laws.FnExactIsDigits", spec := "fnExactIsDigits", apart := false }
def FnExactIsDigitsSaid : Prop := fnExactIsDigitsRow.holds Try.pinned (OpenSpec.ofChange fnExactIsDigitsSpec)

/-- ITS FALSE NEIGHBOUR: 'it returns false'. Refute it at one input. -/
def fnExactIsDigitsWrong : ChangeSpec := { name := "fnExactIsDigits", fn := fun _ => fun
  | [d] => { results := [.lit (.bool false)], args := [d] }
  | _ => none }
def FnExactIsDigitsWrongFalsely : Prop := fnExactIsDigitsRow.holds Try.pinned (OpenSpec.ofChange fnExactIsDigitsWrong)

/-- 'laws.FnExactIsName': WHATEVER THE INPUT: true; the input reads as it did. -/
def fnExactIsNameSpec : ChangeSpec := { name := "fnExactIsName", fn := fun _ => fun
  | [d] => { results := [.lit (.bool true)], args := [d] }
  | _ => none }
def fnExactIsNameRow : OpenClaim := { program := "ytanlkmhhecoabaa", sum := "d8b4ce2b8112333b509f036c7b83226003be7ea6c4fe99193ce3a00f1f9fc519", func := "loop.example/g00812/laws.FnExactIsName", spec := "fnExactIsName", apart := false }
def FnExactIsNameSaid : Prop := fnExactIsNameRow.holds Try.pinned (OpenSpec.ofChange fnExactIsNameSpec)

/-- ITS FALSE NEIGHBOUR: 'it returns false'. Refute it at one input. -/
def fnExactIsNameWrong : ChangeSpec := { name := "fnExactIsName", fn := fun _ => fun
  | [d] => { results := [.lit (.bool false)], args := [d] }
  | _ => none }
def FnExactIsNameWrongFalsely : Prop := fnExactIsNameRow.holds Try.pinned (OpenSpec.ofChange fnExactIsNameWrong)

/-- 'laws.FnExactNatOk': WHATEVER THE INPUT: true; the input reads as it did. -/
def fnExactNatOkSpec : ChangeSpec := { name := "fnExactNatOk", fn := fun _ => fun
  | [d] => { results := [.lit (.bool true)], args := [d] }
  | _ => none }
def fnExactNatOkRow : OpenClaim := { program := "ytanlkmhhecoabaa", sum := "d8b4ce2b8112333b509f036c7b83226003be7ea6c4fe99193ce3a00f1f9fc519", func := "loop.example/g00812/laws.FnExactNatOk", spec := "fnExactNatOk", unfollowed := true, recurses := true, apart := false }
def FnExactNatOkSaid : Prop := fnExactNatOkRow.holds Try.pinned (OpenSpec.ofChange fnExactNatOkSpec)

/-- ITS FALSE NEIGHBOUR: 'it returns false'. Refute it at one input. -/
def fnExactNatOkWrong : ChangeSpec := { name := "fnExactNatOk", fn := fun _ => fun
  | [d] => { results := [.lit (.bool false)], args := [d] }
  | _ => none }
def FnExactNatOkWrongFalsely : Prop := fnExactNatOkRow.holds Try.pinned (OpenSpec.ofChange fnExactNatOkWrong)

/-- 'laws.FnExactNatOf': WHATEVER THE INPUT: true; the input reads as it did. -/
def fnExactNatOfSpec : ChangeSpec := { name := "fnExactNatOf", fn := fun _ => fun
  | [d] => { results := [.lit (.bool true)], args := [d] }
  | _ => none }
def fnExactNatOfRow : OpenClaim := { program := "ytanlkmhhecoabaa", sum := "d8b4ce2b8112333b509f036c7b83226003be7ea6c4fe99193ce3a00f1f9fc519", func := "loop.example/g00812/laws.FnExactNatOf", spec := "fnExactNatOf", apart := false }
def FnExactNatOfSaid : Prop := fnExactNatOfRow.holds Try.pinned (OpenSpec.ofChange fnExactNatOfSpec)

/-- ITS FALSE NEIGHBOUR: 'it returns false'. Refute it at one input. -/
def fnExactNatOfWrong : ChangeSpec := { name := "fnExactNatOf", fn := fun _ => fun
  | [d] => { results := [.lit (.bool false)], args := [d] }
  | _ => none }
def FnExactNatOfWrongFalsely : Prop := fnExactNatOfRow.holds Try.pinned (OpenSpec.ofChange fnExactNatOfWrong)

/-- 'laws.FnExactSplitAny': WHATEVER THE INPUT: true; the input reads as it did. -/
def fnExactSplitAnySpec : ChangeSpec := { name := "fnExactSplitAny", fn := fun _ => fun
  | [d1, d2] => { results := [.lit (.bool true)], args := [d1, d2] }
  | _ => none }
def fnExactSplitAnyRow : OpenClaim := { program := "ytanlkmhhecoabaa", sum := "d8b4ce2b8112333b509f036c7b83226003be7ea6c4fe99193ce3a00f1f9fc519", func := "loop.example/g00812/laws.FnExactSplitAny", spec := "fnExactSplitAny", inPlace := ["internal/bytealg.IndexByteString"], apart := false }
def FnExactSplitAnySaid : Prop := fnExactSplitAnyRow.holds Try.pinned (OpenSpec.ofChange fnExactSplitAnySpec)

/-- ITS FALSE NEIGHBOUR: 'it returns false'. Refute it at one input. -/
def fnExactSplitAnyWrong : ChangeSpec := { name := "fnExactSplitAny", fn := fun _ => fun
  | [d1, d2] => { results := [.lit (.bool false)], args := [d1, d2] }
  | _ => none }
def FnExactSplitAnyWrongFalsely : Prop := fnExactSplitAnyRow.holds Try.pinned (OpenSpec.ofChange fnExactSplitAnyWrong)

/- THE SECOND FORM. 'bulk': how many values and letters a reading holds, each counted each time it is reached (what is shared counts as often as it is met; a slice's spare places count too). A statement '..UptoSaid' is the law's where the arguments, and the package variables that the reading takes, are together of bulk at most 1048576: NARROWER than '..Said'. Prove '..Said' where nothing that the law and all that it calls make is longer than what came in: it says more and counts as full. Else prove '..UptoSaid'. A law counts once. -/
mutual
def uptoBulk {H : Type} : DataW H → Nat
  | .lit (.string bytes) => bytes.length + 1
  | .lit _ => 1
  | .nil => 1
  | .ptr d => uptoBulk d + 1
  | .slice elems spare => uptoBulkAll elems + uptoBulkAll spare + 1
  | .agg parts => uptoBulkAll parts + 1
  | .iface _ d => uptoBulk d + 1
  | .map entries => uptoBulkEntries entries + 1
  | .held _ => 1
def uptoBulkAll {H : Type} : List (DataW H) → Nat
  | [] => 0
  | d :: r => uptoBulk d + uptoBulkAll r
def uptoBulkEntries {H : Type} : List (Lit × DataW H) → Nat
  | [] => 0
  | x :: r => uptoBulkEntry x + uptoBulkEntries r
def uptoBulkEntry {H : Type} : Lit × DataW H → Nat
  | (.string bytes, d) => bytes.length + uptoBulk d + 1
  | (_, d) => uptoBulk d + 1
 end
def uptoSmall : (H : Type) → List (DataW H) → Bool := fun _ ds => decide (uptoBulkAll ds ≤ 1048576)
def OpenSpec.upto (s : _root_.Go.ChangeSpec) : _root_.Go.OpenSpec := { _root_.Go.OpenSpec.ofChange s with cond := some uptoSmall }

/-- 'laws.FnExactConstants', WHERE WHAT IT READS IS OF BULK AT MOST 1048576: true; the input reads as it did. -/
def fnExactConstantsUptoRow : OpenClaim := { program := "ytanlkmhhecoabaa", sum := "d8b4ce2b8112333b509f036c7b83226003be7ea6c4fe99193ce3a00f1f9fc519", func := "loop.example/g00812/laws.FnExactConstants", spec := "fnExactConstants", apart := false, narrowed := true }
def FnExactConstantsUptoSaid : Prop := fnExactConstantsUptoRow.holds Try.pinned (OpenSpec.upto fnExactConstantsSpec)

/-- 'laws.FnExactIsDigits', WHERE WHAT IT READS IS OF BULK AT MOST 1048576: true; the input reads as it did. -/
def fnExactIsDigitsUptoRow : OpenClaim := { program := "ytanlkmhhecoabaa", sum := "d8b4ce2b8112333b509f036c7b83226003be7ea6c4fe99193ce3a00f1f9fc519", func := "loop.example/g00812/laws.FnExactIsDigits", spec := "fnExactIsDigits", apart := false, narrowed := true }
def FnExactIsDigitsUptoSaid : Prop := fnExactIsDigitsUptoRow.holds Try.pinned (OpenSpec.upto fnExactIsDigitsSpec)

/-- 'laws.FnExactIsName', WHERE WHAT IT READS IS OF BULK AT MOST 1048576: true; the input reads as it did. -/
def fnExactIsNameUptoRow : OpenClaim := { program := "ytanlkmhhecoabaa", sum := "d8b4ce2b8112333b509f036c7b83226003be7ea6c4fe99193ce3a00f1f9fc519", func := "loop.example/g00812/laws.FnExactIsName", spec := "fnExactIsName", apart := false, narrowed := true }
def FnExactIsNameUptoSaid : Prop := fnExactIsNameUptoRow.holds Try.pinned (OpenSpec.upto fnExactIsNameSpec)

/-- 'laws.FnExactNatOk', WHERE WHAT IT READS IS OF BULK AT MOST 1048576: true; the input reads as it did. -/
def fnExactNatOkUptoRow : OpenClaim := { program := "ytanlkmhhecoabaa", sum := "d8b4ce2b8112333b509f036c7b83226003be7ea6c4fe99193ce3a00f1f9fc519", func := "loop.example/g00812/laws.FnExactNatOk", spec := "fnExactNatOk", unfollowed := true, recurses := true, apart := false, narrowed := true }
def FnExactNatOkUptoSaid : Prop := fnExactNatOkUptoRow.holds Try.pinned (OpenSpec.upto fnExactNatOkSpec)

/-- 'laws.FnExactNatOf', WHERE WHAT IT READS IS OF BULK AT MOST 1048576: true; the input reads as it did. -/
def fnExactNatOfUptoRow : OpenClaim := { program := "ytanlkmhhecoabaa", sum := "d8b4ce2b8112333b509f036c7b83226003be7ea6c4fe99193ce3a00f1f9fc519", func := "loop.example/g00812/laws.FnExactNatOf", spec := "fnExactNatOf", apart := false, narrowed := true }
def FnExactNatOfUptoSaid : Prop := fnExactNatOfUptoRow.holds Try.pinned (OpenSpec.upto fnExactNatOfSpec)

/-- 'laws.FnExactSplitAny', WHERE WHAT IT READS IS OF BULK AT MOST 1048576: true; the input reads as it did. -/
def fnExactSplitAnyUptoRow : OpenClaim := { program := "ytanlkmhhecoabaa", sum := "d8b4ce2b8112333b509f036c7b83226003be7ea6c4fe99193ce3a00f1f9fc519", func := "loop.example/g00812/laws.FnExactSplitAny", spec := "fnExactSplitAny", inPlace := ["internal/bytealg.IndexByteString"], apart := false, narrowed := true }
def FnExactSplitAnyUptoSaid : Prop := fnExactSplitAnyUptoRow.holds Try.pinned (OpenSpec.upto fnExactSplitAnySpec)

end Rows
end Go.Proofs.Ytanlkmhhecoabaa
