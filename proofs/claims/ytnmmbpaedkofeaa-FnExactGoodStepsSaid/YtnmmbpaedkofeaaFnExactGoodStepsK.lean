/- A part of the proof of FnExactGoodSteps: the statement itself: the program answers true for every input and leaves its argument as it was. No condition. -/
import Derived.Test.YtnmmbpaedkofeaaFnExactGoodStepsG
import Derived.Test.YtnmmbpaedkofeaaFnExactGoodStepsH
import Derived.Test.YtnmmbpaedkofeaaFnExactGoodStepsI
import Derived.Test.YtnmmbpaedkofeaaFnExactGoodStepsJ
/- The row of the law FnExactGoodSteps, whole. -/
namespace Go.Proofs.Ytnmmbpaedkofeaa.fnExactGoodSteps
open Go Go.ChangeShapes Go.WideShapes Go.ChangeAt Go.RowKit
set_option linter.unusedVariables false
theorem andT {a b : Bool} (h : a = true) (k : b = true) : (a && b) = true := by rw [h, k]; rfl
set_option maxRecDepth 100000 in
theorem closed : joinedFacts Try.prog 12 Try.f12 Rows.fnExactGoodStepsSpec Rows.fnExactGoodStepsRow = true := (andT (andT (andT (andT (andT (andT (andT (andT (andT (andT (andT (andT (andT (andT (andT (andT (andT (andT (andT (andT (andT (andT (andT (andT (andT (andT (andT (andT (andT (andT (andT cf0 cf1) cf2) cf3) cf4) cf5) cf6) cf7) cf8) cf9) cf10) cf11) cf12) cf13) cf14) cf15) cf16) cf17) cf18) cf19) cf20) cf21) cf22) cf23) cf24) cf25) cf26) cf27) cf28) cf29) cf30) cf31)
theorem over : Rows.fnExactGoodStepsRow.holds Try.pinned (OpenSpec.ofChange Rows.fnExactGoodStepsSpec) :=
  OpenClaim.holds_of_wide 12 Try.f12 rfl rfl rfl rfl rfl rfl rfl ⟨rfl, rfl, rfl, rfl, rfl⟩ rfl rfl rfl rfl rfl (by kernel_rfl) Try.func12 closed
    (of_decide_eq_true (by kernel_rfl)) (by unfold Func.isWrapper; first | (rw [if_pos (by decide +kernel)]; kernel_rfl) | (rw [if_neg (by decide +kernel)]; exact ⟨rfl, rfl⟩))
    (fun os started H enc _ => lifted os started H enc)
theorem proved : Rows.FnExactGoodStepsSaid := over
end Go.Proofs.Ytnmmbpaedkofeaa.fnExactGoodSteps
namespace Go.Proofs.Ytnmmbpaedkofeaa
theorem fnExactGoodSteps_holds : Rows.FnExactGoodStepsSaid := fnExactGoodSteps.proved
end Go.Proofs.Ytnmmbpaedkofeaa
