/- A part of the proof of FnWorldForms: the statement itself: the program answers true for every input and leaves its argument as it was. No condition. -/
import Derived.Test.YtebbaacgalipaaaGreatFnWorldFormsJ
import Derived.Test.YtebbaacgalipaaaGreatFnWorldFormsK
import Derived.Test.YtebbaacgalipaaaGreatFnWorldFormsL
import Derived.Test.YtebbaacgalipaaaGreatFnWorldFormsM
/- The row of the law FnWorldForms, whole. -/
namespace Go.Proofs.YtebbaacgalipaaaGreat.fnWorldForms
open Go Go.ChangeShapes Go.WideShapes Go.ChangeAt Go.RowKit
set_option linter.unusedVariables false
theorem andT {a b : Bool} (h : a = true) (k : b = true) : (a && b) = true := by rw [h, k]; rfl
set_option maxRecDepth 100000 in
theorem closed : joinedFacts Tryz.prog 6 Tryz.f6 Rows.fnWorldFormsSpec Rows.fnWorldFormsRow = true := (andT (andT (andT (andT (andT (andT (andT (andT (andT (andT (andT (andT (andT (andT (andT (andT (andT (andT (andT (andT (andT (andT (andT (andT (andT (andT (andT (andT (andT (andT (andT cf0 cf1) cf2) cf3) cf4) cf5) cf6) cf7) cf8) cf9) cf10) cf11) cf12) cf13) cf14) cf15) cf16) cf17) cf18) cf19) cf20) cf21) cf22) cf23) cf24) cf25) cf26) cf27) cf28) cf29) cf30) cf31)
theorem over : Rows.fnWorldFormsRow.holds Tryz.pinned (OpenSpec.ofChange Rows.fnWorldFormsSpec) :=
  OpenClaim.holds_of_wide 6 Tryz.f6 rfl rfl rfl rfl rfl rfl rfl ⟨rfl, rfl, rfl, rfl, rfl⟩ rfl rfl rfl rfl rfl (by kernel_rfl) Tryz.func6 closed
    (of_decide_eq_true (by kernel_rfl)) (by unfold Func.isWrapper; first | (rw [if_pos (by decide +kernel)]; kernel_rfl) | (rw [if_neg (by decide +kernel)]; exact ⟨rfl, rfl⟩))
    (fun os started H enc _ => lifted os started H enc)
theorem proved : Rows.FnWorldFormsSaid := over
end Go.Proofs.YtebbaacgalipaaaGreat.fnWorldForms
namespace Go.Proofs.YtebbaacgalipaaaGreat
theorem fnWorldForms_holds : Rows.FnWorldFormsSaid := fnWorldForms.proved
end Go.Proofs.YtebbaacgalipaaaGreat
