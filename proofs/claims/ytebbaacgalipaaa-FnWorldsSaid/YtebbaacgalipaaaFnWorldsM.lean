/- A part of the proof of FnWorlds: the statement itself: the program answers true for every input and leaves its argument as it was. No condition. -/
import Derived.Test.YtebbaacgalipaaaRows
import Derived.Test.YtebbaacgalipaaaFnWorldsB
/- A fact of the row of the law FnWorlds. -/
namespace Go.Proofs.Ytebbaacgalipaaa.fnWorlds
open Go Go.ChangeShapes Go.WideShapes Go.ChangeAt Go.RowKit
set_option linter.unusedVariables false
theorem cf26 : ((Rows.fnWorldsRow.lifted == Try.prog.liftsFinal)) = true := by kernel_rfl
end Go.Proofs.Ytebbaacgalipaaa.fnWorlds
