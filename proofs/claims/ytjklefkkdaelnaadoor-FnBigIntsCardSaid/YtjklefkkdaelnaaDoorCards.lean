/-
  DERIVED. GIVEN WITH THE SEED: THE CARDS: each row of YtjklefkkdaelnaaDoorRows.lean that lists a variable, with what it lists TIED to the program's text (the seventh form; the later family's looks); each row that meets fmt, with fmt's text TOLD by the authors' own Lean function (tested against real Go, not proved from fmt's source: count such statements apart). THE CARD IS WHAT COUNTS. Prove the row's statement (the work); the ties are given (YtjklefkkdaelnaaDoorTie.lean); close each card by the builder's one call (the guide's Derived/Test/ToyasCard.lean, 'card_holds'). Laid BY PROGRAM, IN A SANDBOX (cutbox-door.mjs). By AI agents, Wed Nov 11 2026. No macro, syntax, notation, axiom, sorry.
-/
import Derived.Test.YtjklefkkdaelnaaDoorRows
import GoSem.ClaimSeven
namespace Go.Proofs.YtjklefkkdaelnaaDoor
namespace Rows

/-- THE TIED CARD OF 'laws.FnExactSplitLines'. -/
def fnExactSplitLinesCard : Claim7 := { stood := { row := fnExactSplitLinesRow, standIns := [], harness := (true, "73a61dcd582288e7bad97c363601477dc77ac763254cdaaee76d9b755edce1da"), looks := true }, kinds := [], alts := [], laidByText := true, laidKinds := [.data, .pinned], laidTests := true, laidLooks := .later }
def FnExactSplitLinesCardSaid : Prop := Claim7.holds Tryd.pinned (.plain (OpenSpec.ofChange fnExactSplitLinesSpec)) fnExactSplitLinesCard

/-- THE TIED CARD OF 'laws.FnExactFormatNat'. -/
def fnExactFormatNatCard : Claim7 := { stood := { row := fnExactFormatNatRow, standIns := [], harness := (true, "73a61dcd582288e7bad97c363601477dc77ac763254cdaaee76d9b755edce1da"), looks := true }, kinds := [], alts := [], laidByText := true, laidKinds := [.data, .data, .data], laidTests := true, laidLooks := .later }
def FnExactFormatNatCardSaid : Prop := Claim7.holds Tryd.pinned (.plain (OpenSpec.ofChange fnExactFormatNatSpec)) fnExactFormatNatCard

/-- THE TIED CARD OF 'laws.FnExactParseNat'. -/
def fnExactParseNatCard : Claim7 := { stood := { row := fnExactParseNatRow, standIns := [], harness := (true, "73a61dcd582288e7bad97c363601477dc77ac763254cdaaee76d9b755edce1da"), looks := true }, kinds := [], alts := [], laidByText := true, laidKinds := [.data, .data, .data], laidTests := true, laidLooks := .later }
def FnExactParseNatCardSaid : Prop := Claim7.holds Tryd.pinned (.plain (OpenSpec.ofChange fnExactParseNatSpec)) fnExactParseNatCard

/-- THE TIED CARD OF 'laws.FnExactFormatBigInt'. -/
def fnExactFormatBigIntCard : Claim7 := { stood := { row := fnExactFormatBigIntRow, standIns := [], harness := (true, "73a61dcd582288e7bad97c363601477dc77ac763254cdaaee76d9b755edce1da"), looks := true }, kinds := [], alts := [], laidByText := true, laidKinds := [.data, .data, .data], laidTests := true, laidLooks := .later }
def FnExactFormatBigIntCardSaid : Prop := Claim7.holds Tryd.pinned (.plain (OpenSpec.ofChange fnExactFormatBigIntSpec)) fnExactFormatBigIntCard

/-- THE TIED CARD OF 'laws.FnExactParseInt'. -/
def fnExactParseIntCard : Claim7 := { stood := { row := fnExactParseIntRow, standIns := [], harness := (true, "73a61dcd582288e7bad97c363601477dc77ac763254cdaaee76d9b755edce1da"), looks := true }, kinds := [], alts := [], laidByText := true, laidKinds := [.data, .data, .data, .sentinel, .sentinel], laidTests := true, laidLooks := .later }
def FnExactParseIntCardSaid : Prop := Claim7.holds Tryd.pinned (.plain (OpenSpec.ofChange fnExactParseIntSpec)) fnExactParseIntCard

/-- THE TIED CARD OF 'laws.FnExactParseBigInt'. -/
def fnExactParseBigIntCard : Claim7 := { stood := { row := fnExactParseBigIntRow, standIns := [], harness := (true, "73a61dcd582288e7bad97c363601477dc77ac763254cdaaee76d9b755edce1da"), looks := true }, kinds := [], alts := [], laidByText := true, laidKinds := [.data, .data, .data], laidTests := true, laidLooks := .later }
def FnExactParseBigIntCardSaid : Prop := Claim7.holds Tryd.pinned (.plain (OpenSpec.ofChange fnExactParseBigIntSpec)) fnExactParseBigIntCard

/-- THE TIED CARD OF 'laws.FnNats'. -/
def fnNatsCard : Claim7 := { stood := { row := fnNatsRow, standIns := [], harness := (true, "73a61dcd582288e7bad97c363601477dc77ac763254cdaaee76d9b755edce1da"), looks := true }, kinds := [], alts := [], laidByText := true, laidKinds := [.data, .data, .data], laidTests := true, laidLooks := .later }
def FnNatsCardSaid : Prop := Claim7.holds Tryd.pinned (.plain (OpenSpec.ofChange fnNatsSpec)) fnNatsCard

/-- THE TIED CARD OF 'laws.FnBigInts'. -/
def fnBigIntsCard : Claim7 := { stood := { row := fnBigIntsRow, standIns := [], harness := (true, "73a61dcd582288e7bad97c363601477dc77ac763254cdaaee76d9b755edce1da"), looks := true }, kinds := [], alts := [], laidByText := true, laidKinds := [.data, .data, .data], laidTests := true, laidLooks := .later }
def FnBigIntsCardSaid : Prop := Claim7.holds Tryd.pinned (.plain (OpenSpec.ofChange fnBigIntsSpec)) fnBigIntsCard

/-- THE TIED CARD OF 'laws.FnWords'. -/
def fnWordsCard : Claim7 := { stood := { row := fnWordsRow, standIns := [], harness := (true, "73a61dcd582288e7bad97c363601477dc77ac763254cdaaee76d9b755edce1da"), looks := true }, kinds := [], alts := [], laidByText := true, laidKinds := [.data, .data, .data, .data, .sentinel, .sentinel, .pinned], laidTests := true, laidLooks := .later }
def FnWordsCardSaid : Prop := Claim7.holds Tryd.pinned (.plain (OpenSpec.ofChange fnWordsSpec)) fnWordsCard

/-- THE TIED CARD OF 'laws.FnExactFormatRat'. -/
def fnExactFormatRatCard : Claim7 := { stood := { row := fnExactFormatRatRow, standIns := [], harness := (true, "73a61dcd582288e7bad97c363601477dc77ac763254cdaaee76d9b755edce1da"), looks := true }, kinds := [], alts := [], laidByText := true, laidKinds := [.data, .data, .data], laidTests := true, laidLooks := .later }
def FnExactFormatRatCardSaid : Prop := Claim7.holds Tryd.pinned (.plain (OpenSpec.ofChange fnExactFormatRatSpec)) fnExactFormatRatCard

/-- THE SECOND FORM's CARD OF 'laws.FnExactSplitLines'. -/
def fnExactSplitLinesUptoCard : Claim7 := { stood := { row := fnExactSplitLinesUptoRow, standIns := [], harness := (true, "73a61dcd582288e7bad97c363601477dc77ac763254cdaaee76d9b755edce1da"), looks := true }, kinds := [], alts := [], laidByText := true, laidKinds := [.data, .pinned], laidTests := true, laidLooks := .later }
def FnExactSplitLinesUptoCardSaid : Prop := Claim7.holds Tryd.pinned (.plain (OpenSpec.upto fnExactSplitLinesSpec)) fnExactSplitLinesUptoCard

/-- THE SECOND FORM's CARD OF 'laws.FnExactFormatNat'. -/
def fnExactFormatNatUptoCard : Claim7 := { stood := { row := fnExactFormatNatUptoRow, standIns := [], harness := (true, "73a61dcd582288e7bad97c363601477dc77ac763254cdaaee76d9b755edce1da"), looks := true }, kinds := [], alts := [], laidByText := true, laidKinds := [.data, .data, .data], laidTests := true, laidLooks := .later }
def FnExactFormatNatUptoCardSaid : Prop := Claim7.holds Tryd.pinned (.plain (OpenSpec.upto fnExactFormatNatSpec)) fnExactFormatNatUptoCard

/-- THE SECOND FORM's CARD OF 'laws.FnExactParseNat'. -/
def fnExactParseNatUptoCard : Claim7 := { stood := { row := fnExactParseNatUptoRow, standIns := [], harness := (true, "73a61dcd582288e7bad97c363601477dc77ac763254cdaaee76d9b755edce1da"), looks := true }, kinds := [], alts := [], laidByText := true, laidKinds := [.data, .data, .data], laidTests := true, laidLooks := .later }
def FnExactParseNatUptoCardSaid : Prop := Claim7.holds Tryd.pinned (.plain (OpenSpec.upto fnExactParseNatSpec)) fnExactParseNatUptoCard

/-- THE SECOND FORM's CARD OF 'laws.FnExactFormatBigInt'. -/
def fnExactFormatBigIntUptoCard : Claim7 := { stood := { row := fnExactFormatBigIntUptoRow, standIns := [], harness := (true, "73a61dcd582288e7bad97c363601477dc77ac763254cdaaee76d9b755edce1da"), looks := true }, kinds := [], alts := [], laidByText := true, laidKinds := [.data, .data, .data], laidTests := true, laidLooks := .later }
def FnExactFormatBigIntUptoCardSaid : Prop := Claim7.holds Tryd.pinned (.plain (OpenSpec.upto fnExactFormatBigIntSpec)) fnExactFormatBigIntUptoCard

/-- THE SECOND FORM's CARD OF 'laws.FnExactParseInt'. -/
def fnExactParseIntUptoCard : Claim7 := { stood := { row := fnExactParseIntUptoRow, standIns := [], harness := (true, "73a61dcd582288e7bad97c363601477dc77ac763254cdaaee76d9b755edce1da"), looks := true }, kinds := [], alts := [], laidByText := true, laidKinds := [.data, .data, .data, .sentinel, .sentinel], laidTests := true, laidLooks := .later }
def FnExactParseIntUptoCardSaid : Prop := Claim7.holds Tryd.pinned (.plain (OpenSpec.upto fnExactParseIntSpec)) fnExactParseIntUptoCard

/-- THE SECOND FORM's CARD OF 'laws.FnExactParseBigInt'. -/
def fnExactParseBigIntUptoCard : Claim7 := { stood := { row := fnExactParseBigIntUptoRow, standIns := [], harness := (true, "73a61dcd582288e7bad97c363601477dc77ac763254cdaaee76d9b755edce1da"), looks := true }, kinds := [], alts := [], laidByText := true, laidKinds := [.data, .data, .data], laidTests := true, laidLooks := .later }
def FnExactParseBigIntUptoCardSaid : Prop := Claim7.holds Tryd.pinned (.plain (OpenSpec.upto fnExactParseBigIntSpec)) fnExactParseBigIntUptoCard

/-- THE SECOND FORM's CARD OF 'laws.FnNats'. -/
def fnNatsUptoCard : Claim7 := { stood := { row := fnNatsUptoRow, standIns := [], harness := (true, "73a61dcd582288e7bad97c363601477dc77ac763254cdaaee76d9b755edce1da"), looks := true }, kinds := [], alts := [], laidByText := true, laidKinds := [.data, .data, .data], laidTests := true, laidLooks := .later }
def FnNatsUptoCardSaid : Prop := Claim7.holds Tryd.pinned (.plain (OpenSpec.upto fnNatsSpec)) fnNatsUptoCard

/-- THE SECOND FORM's CARD OF 'laws.FnBigInts'. -/
def fnBigIntsUptoCard : Claim7 := { stood := { row := fnBigIntsUptoRow, standIns := [], harness := (true, "73a61dcd582288e7bad97c363601477dc77ac763254cdaaee76d9b755edce1da"), looks := true }, kinds := [], alts := [], laidByText := true, laidKinds := [.data, .data, .data], laidTests := true, laidLooks := .later }
def FnBigIntsUptoCardSaid : Prop := Claim7.holds Tryd.pinned (.plain (OpenSpec.upto fnBigIntsSpec)) fnBigIntsUptoCard

/-- THE SECOND FORM's CARD OF 'laws.FnWords'. -/
def fnWordsUptoCard : Claim7 := { stood := { row := fnWordsUptoRow, standIns := [], harness := (true, "73a61dcd582288e7bad97c363601477dc77ac763254cdaaee76d9b755edce1da"), looks := true }, kinds := [], alts := [], laidByText := true, laidKinds := [.data, .data, .data, .data, .sentinel, .sentinel, .pinned], laidTests := true, laidLooks := .later }
def FnWordsUptoCardSaid : Prop := Claim7.holds Tryd.pinned (.plain (OpenSpec.upto fnWordsSpec)) fnWordsUptoCard

/-- THE SECOND FORM's CARD OF 'laws.FnExactFormatRat'. -/
def fnExactFormatRatUptoCard : Claim7 := { stood := { row := fnExactFormatRatUptoRow, standIns := [], harness := (true, "73a61dcd582288e7bad97c363601477dc77ac763254cdaaee76d9b755edce1da"), looks := true }, kinds := [], alts := [], laidByText := true, laidKinds := [.data, .data, .data], laidTests := true, laidLooks := .later }
def FnExactFormatRatUptoCardSaid : Prop := Claim7.holds Tryd.pinned (.plain (OpenSpec.upto fnExactFormatRatSpec)) fnExactFormatRatUptoCard
end Rows
end Go.Proofs.YtjklefkkdaelnaaDoor
