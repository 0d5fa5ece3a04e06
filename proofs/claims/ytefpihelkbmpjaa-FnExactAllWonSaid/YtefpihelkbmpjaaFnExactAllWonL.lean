/- A part of the proof of FnExactAllWon: the statement itself: the program answers true for every input and leaves its argument as it was. No condition. -/
import Derived.Test.YtefpihelkbmpjaaRows
import Derived.Test.YtefpihelkbmpjaaFnExactAllWonB
/- A fact of the row of the law FnExactAllWon. -/
namespace Go.Proofs.Ytefpihelkbmpjaa.fnExactAllWon
open Go Go.ChangeShapes Go.WideShapes Go.ChangeAt Go.RowKit
set_option linter.unusedVariables false
theorem cf27 : ((Try.prog.make == some Rows.fnExactAllWonRow.make)) = true := by kernel_rfl
end Go.Proofs.Ytefpihelkbmpjaa.fnExactAllWon
