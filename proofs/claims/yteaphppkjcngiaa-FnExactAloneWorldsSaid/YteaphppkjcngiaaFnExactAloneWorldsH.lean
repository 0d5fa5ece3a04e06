/- A part of the proof of FnExactAloneWorlds: the statement itself: the program answers true for every input and leaves its argument as it was. No condition. -/
import Derived.Test.YteaphppkjcngiaaRows
import Derived.Test.YteaphppkjcngiaaFnExactAloneWorldsB
/- A fact of the row of the law FnExactAloneWorlds. -/
namespace Go.Proofs.Yteaphppkjcngiaa.fnExactAloneWorlds
open Go Go.ChangeShapes Go.WideShapes Go.ChangeAt Go.RowKit
set_option linter.unusedVariables false
theorem cf26 : ((Rows.fnExactAloneWorldsRow.lifted == Try.prog.liftsFinal)) = true := by kernel_rfl
end Go.Proofs.Yteaphppkjcngiaa.fnExactAloneWorlds
