/- A part of the proof of FnTraps: the statement itself: the program answers true for every input and leaves its argument as it was. No condition. -/
import Derived.Test.YtebbaacgalipaaaGreatRows
import Derived.Test.YtebbaacgalipaaaGreatFnTrapsB
/- A fact of the row of the law FnTraps. -/
namespace Go.Proofs.YtebbaacgalipaaaGreat.fnTraps
open Go Go.ChangeShapes Go.WideShapes Go.ChangeAt Go.RowKit
set_option linter.unusedVariables false
theorem cf25 : (Tryz.prog.mayEnter) = true := by kernel_rfl
end Go.Proofs.YtebbaacgalipaaaGreat.fnTraps
