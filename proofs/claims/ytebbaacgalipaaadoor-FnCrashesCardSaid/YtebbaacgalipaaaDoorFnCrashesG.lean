/- A part of the proof of FnCrashes: the statement itself: the program answers true for every input and leaves its argument as it was. No condition. -/
import Derived.Test.YtebbaacgalipaaaDoorRows
import Derived.Test.YtebbaacgalipaaaDoorFnCrashesA
/- A fact of the row of the law FnCrashes. -/
namespace Go.Proofs.YtebbaacgalipaaaDoor.fnCrashes
open Go Go.ChangeShapes Go.WideShapes Go.ChangeAt Go.RowKit
set_option linter.unusedVariables false
theorem cf25 : (Tryd.prog.mayEnter) = true := by kernel_rfl
end Go.Proofs.YtebbaacgalipaaaDoor.fnCrashes
