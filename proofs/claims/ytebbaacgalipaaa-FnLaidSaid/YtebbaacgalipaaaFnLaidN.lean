/- A part of the proof of FnLaid: the statement itself: the program answers true for every input and leaves its argument as it was. No condition. -/
import Derived.Test.YtebbaacgalipaaaRows
import Derived.Test.YtebbaacgalipaaaFnLaidB
/- A fact of the row of the law FnLaid. -/
namespace Go.Proofs.Ytebbaacgalipaaa.fnLaid
open Go Go.ChangeShapes Go.WideShapes Go.ChangeAt Go.RowKit
set_option linter.unusedVariables false
theorem cf27 : ((Try.prog.make == some Rows.fnLaidRow.make)) = true := by kernel_rfl
end Go.Proofs.Ytebbaacgalipaaa.fnLaid
