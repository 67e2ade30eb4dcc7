/- The reference's lowest terms (l04Low). -/
import Derived.Test.YtjklefkkdaelnaaDoorRatF
namespace Go.Proofs.YtjklefkkdaelnaaDoor
set_option linter.unusedVariables false
set_option linter.unusedSimpArgs false
open Go.RowKit
section
variable (n : Bool) (a : Option Addr) (ca : Nat) (xs : List Int) (b : Option Addr) (cb : Nat) (ys : List Int) (w : World) (ha : IntsAt w a ca xs) (hn : xs.length ≤ 400000) (hb : IntsAt w b cb ys) (hm : ys.length ≤ 400000) (hx : Rng xs) (hy : Rng ys) (N D g X Y : Nat) (hN : val xs = N) (hD : val ys = D) (hlN : (digs N).length ≤ 400000) (hlD : (digs D).length ≤ 400000)
set_option maxHeartbeats 4000000 in
include ha hn hb hm hx hy hN hD in
set_option maxHeartbeats 4000000 in
include ha hn hb hm hx hy hN hD hlN hlD in
set_option maxHeartbeats 4000000 in
include ha hn hb hm hx hy hN hD hlN hlD in
set_option maxHeartbeats 4000000 in
include ha hn hb hm hx hy hN hD hlN hlD in
include ha hn hb hm hx hy in
end
end Go.Proofs.YtjklefkkdaelnaaDoor
