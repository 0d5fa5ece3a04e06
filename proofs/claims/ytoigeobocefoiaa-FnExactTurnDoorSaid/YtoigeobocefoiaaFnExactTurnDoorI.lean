/- A part of the proof of FnExactTurnDoor: the statement itself: the program answers true for every input and leaves its argument as it was. No condition. -/
import Derived.Test.YtoigeobocefoiaaRows
import Derived.Test.YtoigeobocefoiaaFnExactTurnDoorB
/- A fact of the row of the law FnExactTurnDoor. -/
namespace Go.Proofs.Ytoigeobocefoiaa.fnExactTurnDoor
open Go Go.ChangeShapes Go.WideShapes Go.ChangeAt Go.RowKit
set_option linter.unusedVariables false
theorem cf27 : ((Try.prog.make == some Rows.fnExactTurnDoorRow.make)) = true := by kernel_rfl
end Go.Proofs.Ytoigeobocefoiaa.fnExactTurnDoor
