/-
  DERIVED. GIVEN WITH THE SEED: THE CARDS: each row of YtehhpkeabckdaaaGreatDoorRows.lean that lists a variable, with what it lists TIED to the program's text (the seventh form; the later family's looks); each row that meets fmt, with fmt's text TOLD by the authors' own Lean function (tested against real Go, not proved from fmt's source: count such statements apart). THE CARD IS WHAT COUNTS. Prove the row's statement (the work); the ties are given (YtehhpkeabckdaaaGreatDoorTie.lean); close each card by the builder's one call (the guide's Derived/Test/ToyasCard.lean, 'card_holds'). Laid BY PROGRAM, IN A SANDBOX (cutbox-door.mjs). By AI agents, Wed Nov 11 2026. No macro, syntax, notation, axiom, sorry.
-/
import Derived.Test.YtehhpkeabckdaaaGreatDoorRows
import GoSem.ClaimSeven
namespace Go.Proofs.YtehhpkeabckdaaaGreatDoor
namespace Rows

/-- THE TIED CARD OF 'laws.FnRats'. -/
def fnRatsCard : Claim7 := { stood := { row := fnRatsRow, standIns := [], harness := (true, "2a15598963283b0771283410179e236f4aebbd966edbd8302689e89a83f84243"), looks := false }, kinds := [], alts := [], laidByText := true, laidKinds := [.data, .data, .data], laidTests := true, laidLooks := .later }
def FnRatsCardSaid : Prop := Claim7.holds Tryz.pinned (.plain (OpenSpec.ofChange fnRatsSpec)) fnRatsCard

/-- THE SECOND FORM's CARD OF 'laws.FnRats'. -/
def fnRatsUptoCard : Claim7 := { stood := { row := fnRatsUptoRow, standIns := [], harness := (true, "2a15598963283b0771283410179e236f4aebbd966edbd8302689e89a83f84243"), looks := false }, kinds := [], alts := [], laidByText := true, laidKinds := [.data, .data, .data], laidTests := true, laidLooks := .later }
def FnRatsUptoCardSaid : Prop := Claim7.holds Tryz.pinned (.plain (OpenSpec.upto fnRatsSpec)) fnRatsUptoCard
end Rows
end Go.Proofs.YtehhpkeabckdaaaGreatDoor
