/- A part of the proof of FnExactGoodSteps: the statement itself: the program answers true for every input and leaves its argument as it was. No condition. -/
import Derived.Test.YtnmmbpaedkofeaaRows
import Derived.Test.YtnmmbpaedkofeaaFnExactGoodStepsB
/- A fact of the row of the law FnExactGoodSteps. -/
namespace Go.Proofs.Ytnmmbpaedkofeaa.fnExactGoodSteps
open Go Go.ChangeShapes Go.WideShapes Go.ChangeAt Go.RowKit
set_option linter.unusedVariables false
theorem cf27 : ((Try.prog.make == some Rows.fnExactGoodStepsRow.make)) = true := by kernel_rfl
end Go.Proofs.Ytnmmbpaedkofeaa.fnExactGoodSteps
