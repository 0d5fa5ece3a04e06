/- A part of the proof of FnExactDeepestFilling: the statement itself: the program answers true for every input and leaves its argument as it was. No condition. -/
import Derived.Test.YtijhomjbcpaknaaRows
import Derived.Test.YtijhomjbcpaknaaFnExactDeepestFillingB
/- A fact of the row of the law FnExactDeepestFilling. -/
namespace Go.Proofs.Ytijhomjbcpaknaa.fnExactDeepestFilling
open Go Go.ChangeShapes Go.WideShapes Go.ChangeAt Go.RowKit
set_option linter.unusedVariables false
theorem cf27 : ((Try.prog.make == some Rows.fnExactDeepestFillingRow.make)) = true := by kernel_rfl
end Go.Proofs.Ytijhomjbcpaknaa.fnExactDeepestFilling
