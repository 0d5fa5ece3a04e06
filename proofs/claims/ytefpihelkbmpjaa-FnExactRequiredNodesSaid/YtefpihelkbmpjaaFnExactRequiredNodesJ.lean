/- A part of the proof of FnExactRequiredNodes: the statement itself: the program answers true for every input and leaves its argument as it was. No condition. -/
import Derived.Test.YtefpihelkbmpjaaRows
import Derived.Test.YtefpihelkbmpjaaFnExactRequiredNodesB
/- A fact of the row of the law FnExactRequiredNodes. -/
namespace Go.Proofs.Ytefpihelkbmpjaa.fnExactRequiredNodes
open Go Go.ChangeShapes Go.WideShapes Go.ChangeAt Go.RowKit
set_option linter.unusedVariables false
theorem cf27 : ((Try.prog.make == some Rows.fnExactRequiredNodesRow.make)) = true := by kernel_rfl
end Go.Proofs.Ytefpihelkbmpjaa.fnExactRequiredNodes
