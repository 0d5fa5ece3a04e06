/- A part of the proof of FnRequired: the statement itself: the program answers true for every input and leaves its argument as it was. No condition. -/
import Derived.Test.YtebbaacgalipaaaGreatFnRequiredI
import Derived.Test.YtebbaacgalipaaaGreatFnRequiredJ
import Derived.Test.YtebbaacgalipaaaGreatFnRequiredK
import Derived.Test.YtebbaacgalipaaaGreatFnRequiredL
/- The row of the law FnRequired, whole. -/
namespace Go.Proofs.YtebbaacgalipaaaGreat.fnRequired
open Go Go.ChangeShapes Go.WideShapes Go.ChangeAt Go.RowKit
set_option linter.unusedVariables false
theorem andT {a b : Bool} (h : a = true) (k : b = true) : (a && b) = true := by rw [h, k]; rfl
set_option maxRecDepth 100000 in
theorem closed : joinedFacts Tryz.prog 3 Tryz.f3 Rows.fnRequiredSpec Rows.fnRequiredRow = true := (andT (andT (andT (andT (andT (andT (andT (andT (andT (andT (andT (andT (andT (andT (andT (andT (andT (andT (andT (andT (andT (andT (andT (andT (andT (andT (andT (andT (andT (andT (andT cf0 cf1) cf2) cf3) cf4) cf5) cf6) cf7) cf8) cf9) cf10) cf11) cf12) cf13) cf14) cf15) cf16) cf17) cf18) cf19) cf20) cf21) cf22) cf23) cf24) cf25) cf26) cf27) cf28) cf29) cf30) cf31)
theorem over : Rows.fnRequiredRow.holds Tryz.pinned (OpenSpec.ofChange Rows.fnRequiredSpec) :=
  OpenClaim.holds_of_wide 3 Tryz.f3 rfl rfl rfl rfl rfl rfl rfl ⟨rfl, rfl, rfl, rfl, rfl⟩ rfl rfl rfl rfl rfl (by kernel_rfl) Tryz.func3 closed
    (of_decide_eq_true (by kernel_rfl)) (by unfold Func.isWrapper; first | (rw [if_pos (by decide +kernel)]; kernel_rfl) | (rw [if_neg (by decide +kernel)]; exact ⟨rfl, rfl⟩))
    (fun os started H enc _ => lifted os started H enc)
theorem proved : Rows.FnRequiredSaid := over
end Go.Proofs.YtebbaacgalipaaaGreat.fnRequired
namespace Go.Proofs.YtebbaacgalipaaaGreat
theorem fnRequired_holds : Rows.FnRequiredSaid := fnRequired.proved
end Go.Proofs.YtebbaacgalipaaaGreat
