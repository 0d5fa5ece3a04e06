/- A part of the proof of FnExactNodesAhead: the statement itself: the program answers true for every input and leaves its argument as it was. No condition. -/
import Derived.Test.YtefpihelkbmpjaaRows
import Derived.Test.YtefpihelkbmpjaaFnExactNodesAheadB
/- A fact of the row of the law FnExactNodesAhead. -/
namespace Go.Proofs.Ytefpihelkbmpjaa.fnExactNodesAhead
open Go Go.ChangeShapes Go.WideShapes Go.ChangeAt Go.RowKit
set_option linter.unusedVariables false
theorem cf26 : ((Rows.fnExactNodesAheadRow.lifted == Try.prog.liftsFinal)) = true := by kernel_rfl
end Go.Proofs.Ytefpihelkbmpjaa.fnExactNodesAhead
