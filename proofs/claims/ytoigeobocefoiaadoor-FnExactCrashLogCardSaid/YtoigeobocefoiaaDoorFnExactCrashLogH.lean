/- A part of the proof of FnExactCrashLog: the statement itself: the program answers true for every input and leaves its argument as it was. No condition. -/
import Derived.Test.YtoigeobocefoiaaDoorRows
import Derived.Test.YtoigeobocefoiaaDoorFnExactCrashLogA
/- A fact of the row of the law FnExactCrashLog. -/
namespace Go.Proofs.YtoigeobocefoiaaDoor.fnExactCrashLog
open Go Go.ChangeShapes Go.WideShapes Go.ChangeAt Go.RowKit
set_option linter.unusedVariables false
theorem cf27 : ((Tryd.prog.make == some Rows.fnExactCrashLogRow.make)) = true := by kernel_rfl
end Go.Proofs.YtoigeobocefoiaaDoor.fnExactCrashLog
