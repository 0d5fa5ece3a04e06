/- A part of the proof of FnExactGiveKeys: the statement itself: the program answers true for every input and leaves its argument as it was. No condition. -/
import Derived.Test.YtefpihelkbmpjaaRows
import Derived.Test.YtefpihelkbmpjaaFnExactGiveKeysB
/- A fact of the row of the law FnExactGiveKeys. -/
namespace Go.Proofs.Ytefpihelkbmpjaa.fnExactGiveKeys
open Go Go.ChangeShapes Go.WideShapes Go.ChangeAt Go.RowKit
set_option linter.unusedVariables false
theorem cf26 : ((Rows.fnExactGiveKeysRow.lifted == Try.prog.liftsFinal)) = true := by kernel_rfl
end Go.Proofs.Ytefpihelkbmpjaa.fnExactGiveKeys
