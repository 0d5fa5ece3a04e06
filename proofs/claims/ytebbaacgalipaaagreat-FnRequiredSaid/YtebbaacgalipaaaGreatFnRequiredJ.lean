/- A part of the proof of FnRequired: the statement itself: the program answers true for every input and leaves its argument as it was. No condition. -/
import Derived.Test.YtebbaacgalipaaaGreatRows
import Derived.Test.YtebbaacgalipaaaGreatFnRequiredB
/- A fact of the row of the law FnRequired. -/
namespace Go.Proofs.YtebbaacgalipaaaGreat.fnRequired
open Go Go.ChangeShapes Go.WideShapes Go.ChangeAt Go.RowKit
set_option linter.unusedVariables false
theorem cf25 : (Tryz.prog.mayEnter) = true := by kernel_rfl
end Go.Proofs.YtebbaacgalipaaaGreat.fnRequired
