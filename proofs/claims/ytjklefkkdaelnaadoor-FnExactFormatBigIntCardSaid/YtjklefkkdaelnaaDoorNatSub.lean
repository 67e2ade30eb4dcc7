/- NatSub whole. -/
import Derived.Test.YtjklefkkdaelnaaDoorSub
namespace Go.Proofs.YtjklefkkdaelnaaDoor
set_option linter.unusedVariables false
set_option linter.unusedSimpArgs false
open Go.RowKit

section
variable (a : Option Addr) (ca : Nat) (xs : List Int) (b : Option Addr) (cb : Nat) (ys : List Int) (w : World) (ha : IntsAt w a ca xs) (hn : xs.length ≤ 1048576) (hb : IntsAt w b cb ys) (hm : ys.length ≤ 1048576)
include ha hn hb hm
end
end Go.Proofs.YtjklefkkdaelnaaDoor
