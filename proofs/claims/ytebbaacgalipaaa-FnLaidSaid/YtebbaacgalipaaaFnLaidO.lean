/- A part of the proof of FnLaid: the statement itself: the program answers true for every input and leaves its argument as it was. No condition. -/
import Derived.Test.YtebbaacgalipaaaFnLaidK
import Derived.Test.YtebbaacgalipaaaFnLaidL
import Derived.Test.YtebbaacgalipaaaFnLaidM
import Derived.Test.YtebbaacgalipaaaFnLaidN
/- The row of the law FnLaid, whole. -/
namespace Go.Proofs.Ytebbaacgalipaaa.fnLaid
open Go Go.ChangeShapes Go.WideShapes Go.ChangeAt Go.RowKit
set_option linter.unusedVariables false
theorem andT {a b : Bool} (h : a = true) (k : b = true) : (a && b) = true := by rw [h, k]; rfl
set_option maxRecDepth 100000 in
theorem closed : joinedFacts Try.prog 5 Try.f5 Rows.fnLaidSpec Rows.fnLaidRow = true := (andT (andT (andT (andT (andT (andT (andT (andT (andT (andT (andT (andT (andT (andT (andT (andT (andT (andT (andT (andT (andT (andT (andT (andT (andT (andT (andT (andT (andT (andT (andT cf0 cf1) cf2) cf3) cf4) cf5) cf6) cf7) cf8) cf9) cf10) cf11) cf12) cf13) cf14) cf15) cf16) cf17) cf18) cf19) cf20) cf21) cf22) cf23) cf24) cf25) cf26) cf27) cf28) cf29) cf30) cf31)
theorem over : Rows.fnLaidRow.holds Try.pinned (OpenSpec.ofChange Rows.fnLaidSpec) :=
  OpenClaim.holds_of_wide 5 Try.f5 rfl rfl rfl rfl rfl rfl rfl ⟨rfl, rfl, rfl, rfl, rfl⟩ rfl rfl rfl rfl rfl (by kernel_rfl) Try.func5 closed
    (of_decide_eq_true (by kernel_rfl)) (by unfold Func.isWrapper; first | (rw [if_pos (by decide +kernel)]; kernel_rfl) | (rw [if_neg (by decide +kernel)]; exact ⟨rfl, rfl⟩))
    (fun os started H enc _ => lifted os started H enc)
theorem proved : Rows.FnLaidSaid := over
end Go.Proofs.Ytebbaacgalipaaa.fnLaid
namespace Go.Proofs.Ytebbaacgalipaaa
theorem fnLaid_holds : Rows.FnLaidSaid := fnLaid.proved
end Go.Proofs.Ytebbaacgalipaaa
