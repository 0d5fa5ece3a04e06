/- A part of the proof of FnExactReleaseRounds: the statement itself: the program answers true for every input and leaves its argument as it was. No condition. -/
import Derived.Test.YtnmmbpaedkofeaaRows
import Derived.Test.YtnmmbpaedkofeaaFnExactReleaseRoundsB
/- A fact of the row of the law FnExactReleaseRounds. -/
namespace Go.Proofs.Ytnmmbpaedkofeaa.fnExactReleaseRounds
open Go Go.ChangeShapes Go.WideShapes Go.ChangeAt Go.RowKit
set_option linter.unusedVariables false
theorem cf26 : ((Rows.fnExactReleaseRoundsRow.lifted == Try.prog.liftsFinal)) = true := by kernel_rfl
end Go.Proofs.Ytnmmbpaedkofeaa.fnExactReleaseRounds
