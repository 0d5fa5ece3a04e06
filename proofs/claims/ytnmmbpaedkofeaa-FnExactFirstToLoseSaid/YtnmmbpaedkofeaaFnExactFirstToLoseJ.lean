/- A part of the proof of FnExactFirstToLose: the statement itself: the program answers true for every input and leaves its argument as it was. No condition. -/
import Derived.Test.YtnmmbpaedkofeaaRows
import Derived.Test.YtnmmbpaedkofeaaFnExactFirstToLoseB
/- A fact of the row of the law FnExactFirstToLose. -/
namespace Go.Proofs.Ytnmmbpaedkofeaa.fnExactFirstToLose
open Go Go.ChangeShapes Go.WideShapes Go.ChangeAt Go.RowKit
set_option linter.unusedVariables false
theorem cf26 : ((Rows.fnExactFirstToLoseRow.lifted == Try.prog.liftsFinal)) = true := by kernel_rfl
end Go.Proofs.Ytnmmbpaedkofeaa.fnExactFirstToLose
