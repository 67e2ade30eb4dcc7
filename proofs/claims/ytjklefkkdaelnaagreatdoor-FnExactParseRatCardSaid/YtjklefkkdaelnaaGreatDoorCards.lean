/-
  DERIVED. GIVEN WITH THE SEED: THE CARDS: each row of YtjklefkkdaelnaaGreatDoorRows.lean that lists a variable, with what it lists TIED to the program's text (the seventh form; the later family's looks); each row that meets fmt, with fmt's text TOLD by the authors' own Lean function (tested against real Go, not proved from fmt's source: count such statements apart). THE CARD IS WHAT COUNTS. Prove the row's statement (the work); the ties are given (YtjklefkkdaelnaaGreatDoorTie.lean); close each card by the builder's one call (the guide's Derived/Test/ToyasCard.lean, 'card_holds'). Laid BY PROGRAM, IN A SANDBOX (cutbox-door.mjs). By AI agents, Wed Nov 11 2026. No macro, syntax, notation, axiom, sorry.
-/
import Derived.Test.YtjklefkkdaelnaaGreatDoorRows
import GoSem.ClaimSeven
namespace Go.Proofs.YtjklefkkdaelnaaGreatDoor
namespace Rows

/-- THE TIED CARD OF 'laws.FnExactFormatPoint'. -/
def fnExactFormatPointCard : Claim7 := { stood := { row := fnExactFormatPointRow, standIns := [], harness := (true, "0c8b634b791b0c7347117a5538e5b19612e75d35b48e11f34bf8d4a61f6ebe1e"), looks := false }, kinds := [], alts := [], laidByText := true, laidKinds := [.data, .data, .data], laidTests := true, laidLooks := .later }
def FnExactFormatPointCardSaid : Prop := Claim7.holds Tryz.pinned (.plain (OpenSpec.ofChange fnExactFormatPointSpec)) fnExactFormatPointCard

/-- THE TIED CARD OF 'laws.FnExactParseRat'. -/
def fnExactParseRatCard : Claim7 := { stood := { row := fnExactParseRatRow, standIns := [], harness := (true, "0c8b634b791b0c7347117a5538e5b19612e75d35b48e11f34bf8d4a61f6ebe1e"), looks := false }, kinds := [], alts := [], laidByText := true, laidKinds := [.data, .data, .data], laidTests := true, laidLooks := .later }
def FnExactParseRatCardSaid : Prop := Claim7.holds Tryz.pinned (.plain (OpenSpec.ofChange fnExactParseRatSpec)) fnExactParseRatCard

/-- THE TIED CARD OF 'laws.FnRats'. -/
def fnRatsCard : Claim7 := { stood := { row := fnRatsRow, standIns := [], harness := (true, "0c8b634b791b0c7347117a5538e5b19612e75d35b48e11f34bf8d4a61f6ebe1e"), looks := false }, kinds := [], alts := [], laidByText := true, laidKinds := [.data, .data, .data], laidTests := true, laidLooks := .later }
def FnRatsCardSaid : Prop := Claim7.holds Tryz.pinned (.plain (OpenSpec.ofChange fnRatsSpec)) fnRatsCard

/-- THE SECOND FORM's CARD OF 'laws.FnExactFormatPoint'. -/
def fnExactFormatPointUptoCard : Claim7 := { stood := { row := fnExactFormatPointUptoRow, standIns := [], harness := (true, "0c8b634b791b0c7347117a5538e5b19612e75d35b48e11f34bf8d4a61f6ebe1e"), looks := false }, kinds := [], alts := [], laidByText := true, laidKinds := [.data, .data, .data], laidTests := true, laidLooks := .later }
def FnExactFormatPointUptoCardSaid : Prop := Claim7.holds Tryz.pinned (.plain (OpenSpec.upto fnExactFormatPointSpec)) fnExactFormatPointUptoCard

/-- THE SECOND FORM's CARD OF 'laws.FnExactParseRat'. -/
def fnExactParseRatUptoCard : Claim7 := { stood := { row := fnExactParseRatUptoRow, standIns := [], harness := (true, "0c8b634b791b0c7347117a5538e5b19612e75d35b48e11f34bf8d4a61f6ebe1e"), looks := false }, kinds := [], alts := [], laidByText := true, laidKinds := [.data, .data, .data], laidTests := true, laidLooks := .later }
def FnExactParseRatUptoCardSaid : Prop := Claim7.holds Tryz.pinned (.plain (OpenSpec.upto fnExactParseRatSpec)) fnExactParseRatUptoCard

/-- THE SECOND FORM's CARD OF 'laws.FnRats'. -/
def fnRatsUptoCard : Claim7 := { stood := { row := fnRatsUptoRow, standIns := [], harness := (true, "0c8b634b791b0c7347117a5538e5b19612e75d35b48e11f34bf8d4a61f6ebe1e"), looks := false }, kinds := [], alts := [], laidByText := true, laidKinds := [.data, .data, .data], laidTests := true, laidLooks := .later }
def FnRatsUptoCardSaid : Prop := Claim7.holds Tryz.pinned (.plain (OpenSpec.upto fnRatsSpec)) fnRatsUptoCard
end Rows
end Go.Proofs.YtjklefkkdaelnaaGreatDoor
