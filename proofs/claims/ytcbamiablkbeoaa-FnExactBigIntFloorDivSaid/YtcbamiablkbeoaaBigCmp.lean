/- BigIntCmp. -/
import Derived.Test.YtcbamiablkbeoaaBig
import Derived.Test.YtcbamiablkbeoaaBigNeg
namespace Go.Proofs.Ytcbamiablkbeoaa
set_option linter.unusedVariables false
set_option linter.unusedSimpArgs false
open Go.RowKit
def bigCmpL (n : Bool) (xs : List Int) (m : Bool) (ys : List Int) : Int := if n then (if m then cmpL ys xs else -1) else (if m then 1 else cmpL xs ys)
def bigCmpI (n : Bool) (xs : List Int) (m : Bool) (ys : List Int) : Int := if bigOkB n xs && bigOkB m ys then bigCmpL n xs m ys else 0
theorem bigCmpI_yes {n m : Bool} {xs ys : List Int} (h : bigOkB n xs = true) (h2 : bigOkB m ys = true) : bigCmpI n xs m ys = bigCmpL n xs m ys := by unfold bigCmpI; rw [h, h2]; rfl
theorem bigCmpI_no1 {n m : Bool} {xs ys : List Int} (h : bigOkB n xs = false) : bigCmpI n xs m ys = 0 := by unfold bigCmpI; rw [h]; rfl
theorem bigCmpI_no2 {n m : Bool} {xs ys : List Int} (h : bigOkB m ys = false) : bigCmpI n xs m ys = 0 := by unfold bigCmpI; rw [h]; simp
theorem box_top {w w' : World} {cs : Array Value} {t : TypeId} {o : Obj} (b : Below ((w.alloc o).alloc (.cells cs t)).heap.size ((w.alloc o).alloc (.cells cs t)) w') : Box w' (w.heap.size + 1) cs := by
  have h := box_new0 b
  simpa only [World.size_alloc] using h
section
variable (n : Bool) (a : Option Addr) (ca : Nat) (xs : List Int) (m : Bool) (b : Option Addr) (cb : Nat) (ys : List Int) (w : World) (ha : IntsAt w a ca xs) (hn : xs.length ≤ 1048576) (hb : IntsAt w b cb ys) (hm : ys.length ≤ 1048576)
include ha hn hb hm
end
end Go.Proofs.Ytcbamiablkbeoaa
