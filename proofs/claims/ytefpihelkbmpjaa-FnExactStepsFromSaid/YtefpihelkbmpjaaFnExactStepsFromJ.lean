/- A part of the proof of FnExactStepsFrom: the statement itself: the program answers true for every input and leaves its argument as it was. No condition. -/
import Derived.Test.YtefpihelkbmpjaaRows
import Derived.Test.YtefpihelkbmpjaaFnExactStepsFromB
/- A fact of the row of the law FnExactStepsFrom. -/
namespace Go.Proofs.Ytefpihelkbmpjaa.fnExactStepsFrom
open Go Go.ChangeShapes Go.WideShapes Go.ChangeAt Go.RowKit
set_option linter.unusedVariables false
theorem cf27 : ((Try.prog.make == some Rows.fnExactStepsFromRow.make)) = true := by kernel_rfl
end Go.Proofs.Ytefpihelkbmpjaa.fnExactStepsFrom
