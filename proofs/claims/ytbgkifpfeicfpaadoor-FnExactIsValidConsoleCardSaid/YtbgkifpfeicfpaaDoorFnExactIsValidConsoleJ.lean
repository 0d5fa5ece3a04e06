/- A part of the proof of FnExactIsValidConsole: the statement itself: the program answers true for every input and leaves its argument as it was. No condition. -/
import Derived.Test.YtbgkifpfeicfpaaDoorRows
import Derived.Test.YtbgkifpfeicfpaaDoorFnExactIsValidConsoleB
/- A fact of the row of the law FnExactIsValidConsole. -/
namespace Go.Proofs.YtbgkifpfeicfpaaDoor.fnExactIsValidConsole
open Go Go.ChangeShapes Go.WideShapes Go.ChangeAt Go.RowKit
set_option linter.unusedVariables false
theorem cf27 : ((Tryd.prog.make == some Rows.fnExactIsValidConsoleRow.make)) = true := by kernel_rfl
end Go.Proofs.YtbgkifpfeicfpaaDoor.fnExactIsValidConsole
