/- What every law's row wants: its arguments opened. -/
import Derived.Test.YtgbnocfkkhngmaaDoorBase
import Derived.Test.YtgbnocfkkhngmaaDoorProg2
import Derived.ProofKit
import Derived.OpenShut
import Derived.ShutString
import Derived.ChangeOld
import Derived.Below
namespace Go.Proofs.YtgbnocfkkhngmaaDoor
set_option linter.unusedVariables false
set_option linter.unusedSimpArgs false
open Go.ChangeShapes Go.WideShapes Go.ChangeAt Go.RowKit
open Go.ChangeMaps (open_string shut_string)

set_option maxRecDepth 100000 in
theorem Tryd.own : ownKnob Tryd.prog.godebug = none := by kernel_rfl
set_option maxRecDepth 100000 in
theorem Tryd.laidOut : laidOutB Tryd.prog = true := by kernel_rfl

set_option maxRecDepth 100000 in
theorem in64_of_wf {n : Int} (h : (Lit.int .i64 n).wf = true) : In64 n := bounds_i64 h

section
variable {H : Type} {enc : TypeId × Value → H} {W : World} {spare : Nat → Bool} {held : Bool}

end
end Go.Proofs.YtgbnocfkkhngmaaDoor
