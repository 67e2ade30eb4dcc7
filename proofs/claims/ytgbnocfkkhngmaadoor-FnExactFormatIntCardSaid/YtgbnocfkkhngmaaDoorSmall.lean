/- The program's and the reference's tests of a range. -/
import Derived.Test.YtgbnocfkkhngmaaDoorHelp
namespace Go.Proofs.YtgbnocfkkhngmaaDoor
set_option linter.unusedVariables false
set_option linter.unusedSimpArgs false
open Go.RowKit

end Go.Proofs.YtgbnocfkkhngmaaDoor
