/- A part of the proof of FnExactLeansOn: the statement itself: the program answers true for every input and leaves its argument as it was. No condition. -/
import Derived.Test.YtnmmbpaedkofeaaRows
import Derived.Test.YtnmmbpaedkofeaaFnExactLeansOnB
/- A fact of the row of the law FnExactLeansOn. -/
namespace Go.Proofs.Ytnmmbpaedkofeaa.fnExactLeansOn
open Go Go.ChangeShapes Go.WideShapes Go.ChangeAt Go.RowKit
set_option linter.unusedVariables false
theorem cf25 : (Try.prog.mayEnter) = true := by kernel_rfl
end Go.Proofs.Ytnmmbpaedkofeaa.fnExactLeansOn
