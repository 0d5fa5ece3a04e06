/- A part of the proof of FnExactReachedIn: the statement itself: the program answers true for every input and leaves its argument as it was. No condition. -/
import Derived.Test.YtefpihelkbmpjaaRows
import Derived.Test.YtefpihelkbmpjaaFnExactReachedInB
/- A fact of the row of the law FnExactReachedIn. -/
namespace Go.Proofs.Ytefpihelkbmpjaa.fnExactReachedIn
open Go Go.ChangeShapes Go.WideShapes Go.ChangeAt Go.RowKit
set_option linter.unusedVariables false
theorem cf25 : (Try.prog.mayEnter) = true := by kernel_rfl
end Go.Proofs.Ytefpihelkbmpjaa.fnExactReachedIn
