/- A part of the proof of FnWorldForms: the statement itself: the program answers true for every input and leaves its argument as it was. No condition. -/
import Derived.Test.YtebbaacgalipaaaGreatRows
import Derived.Test.YtebbaacgalipaaaGreatFnWorldFormsB
/- A fact of the row of the law FnWorldForms. -/
namespace Go.Proofs.YtebbaacgalipaaaGreat.fnWorldForms
open Go Go.ChangeShapes Go.WideShapes Go.ChangeAt Go.RowKit
set_option linter.unusedVariables false
theorem cf26 : ((Rows.fnWorldFormsRow.lifted == Tryz.prog.liftsFinal)) = true := by kernel_rfl
end Go.Proofs.YtebbaacgalipaaaGreat.fnWorldForms
