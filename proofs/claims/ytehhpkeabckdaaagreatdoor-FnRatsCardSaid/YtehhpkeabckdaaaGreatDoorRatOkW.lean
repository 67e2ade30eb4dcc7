/- RatOk: the reference. -/
import Derived.Test.YtehhpkeabckdaaaGreatDoorRatOne
import Derived.Test.YtehhpkeabckdaaaGreatDoorK4
namespace Go.Proofs.YtehhpkeabckdaaaGreatDoor
set_option linter.unusedVariables false
set_option linter.unusedSimpArgs false
open Go.RowKit
theorem specNatOk_b (a : Option Addr) (cap : Nat) (xs : List Int) (w : World) (ha : IntsAt w a cap xs) (hn : xs.length ≤ 1048576) : Calls Tryz.prog 100 #[.slice a xs.length cap] w fun e w' => e = .returned (.bool (natOkB xs)) ∧ Below w.heap.size w w' :=
  (specNatOk_q a cap xs w ha hn).mono fun _ _ h => ⟨h.1, h.2 ▸ Below.refl _ _⟩
section
variable (n : Bool) (a : Option Addr) (ca : Nat) (xs : List Int) (b : Option Addr) (cb : Nat) (ds : List Int) (w : World) (ha : IntsAt w a ca xs) (hn : xs.length ≤ 1048576) (hb : IntsAt w b cb ds) (hm : ds.length ≤ 1048576)
include ha hn hb hm
end
end Go.Proofs.YtehhpkeabckdaaaGreatDoor
