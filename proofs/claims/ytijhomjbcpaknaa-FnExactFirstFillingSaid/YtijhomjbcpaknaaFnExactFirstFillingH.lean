/- A part of the proof of FnExactFirstFilling: the statement itself: the program answers true for every input and leaves its argument as it was. No condition. -/
import Derived.Test.YtijhomjbcpaknaaRows
import Derived.Test.YtijhomjbcpaknaaFnExactFirstFillingB
/- A fact of the row of the law FnExactFirstFilling. -/
namespace Go.Proofs.Ytijhomjbcpaknaa.fnExactFirstFilling
open Go Go.ChangeShapes Go.WideShapes Go.ChangeAt Go.RowKit
set_option linter.unusedVariables false
theorem cf25 : (Try.prog.mayEnter) = true := by kernel_rfl
end Go.Proofs.Ytijhomjbcpaknaa.fnExactFirstFilling
