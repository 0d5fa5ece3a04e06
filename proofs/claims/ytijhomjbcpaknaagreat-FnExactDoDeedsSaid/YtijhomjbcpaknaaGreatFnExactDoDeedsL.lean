/- A part of the proof of FnExactDoDeeds: the statement itself: the program answers true for every input and leaves its argument as it was. No condition. -/
import Derived.Test.YtijhomjbcpaknaaGreatRows
import Derived.Test.YtijhomjbcpaknaaGreatFnExactDoDeedsB
/- A fact of the row of the law FnExactDoDeeds. -/
namespace Go.Proofs.YtijhomjbcpaknaaGreat.fnExactDoDeeds
open Go Go.ChangeShapes Go.WideShapes Go.ChangeAt Go.RowKit
set_option linter.unusedVariables false
theorem cf27 : ((Tryz.prog.make == some Rows.fnExactDoDeedsRow.make)) = true := by kernel_rfl
end Go.Proofs.YtijhomjbcpaknaaGreat.fnExactDoDeeds
