/- Fractions: the reference's sum and difference. -/
import Derived.Test.YtehhpkeabckdaaaGreatDoorRatT
namespace Go.Proofs.YtehhpkeabckdaaaGreatDoor
set_option linter.unusedVariables false
set_option linter.unusedSimpArgs false
open Go.RowKit
section
variable (n : Bool) (a : Option Addr) (ca : Nat) (xs : List Int) (b : Option Addr) (cb : Nat) (ds : List Int) (m : Bool) (a2 : Option Addr) (ca2 : Nat) (ys : List Int) (b2 : Option Addr) (cb2 : Nat) (es : List Int) (w : World) (ha : IntsAt w a ca xs) (hn : xs.length ≤ 1048576) (hb : IntsAt w b cb ds) (hm : ds.length ≤ 1048576) (ha2 : IntsAt w a2 ca2 ys) (hn2 : ys.length ≤ 1048576) (hb2 : IntsAt w b2 cb2 es) (hm2 : es.length ≤ 1048576)
end
end Go.Proofs.YtehhpkeabckdaaaGreatDoor
