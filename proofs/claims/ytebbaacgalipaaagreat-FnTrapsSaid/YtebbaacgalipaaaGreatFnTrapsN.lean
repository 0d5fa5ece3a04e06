/- A part of the proof of FnTraps: the statement itself: the program answers true for every input and leaves its argument as it was. No condition. -/
import Derived.Test.YtebbaacgalipaaaGreatFnTrapsJ
import Derived.Test.YtebbaacgalipaaaGreatFnTrapsK
import Derived.Test.YtebbaacgalipaaaGreatFnTrapsL
import Derived.Test.YtebbaacgalipaaaGreatFnTrapsM
/- The row of the law FnTraps, whole. -/
namespace Go.Proofs.YtebbaacgalipaaaGreat.fnTraps
open Go Go.ChangeShapes Go.WideShapes Go.ChangeAt Go.RowKit
set_option linter.unusedVariables false
theorem andT {a b : Bool} (h : a = true) (k : b = true) : (a && b) = true := by rw [h, k]; rfl
set_option maxRecDepth 100000 in
theorem closed : joinedFacts Tryz.prog 5 Tryz.f5 Rows.fnTrapsSpec Rows.fnTrapsRow = true := (andT (andT (andT (andT (andT (andT (andT (andT (andT (andT (andT (andT (andT (andT (andT (andT (andT (andT (andT (andT (andT (andT (andT (andT (andT (andT (andT (andT (andT (andT (andT cf0 cf1) cf2) cf3) cf4) cf5) cf6) cf7) cf8) cf9) cf10) cf11) cf12) cf13) cf14) cf15) cf16) cf17) cf18) cf19) cf20) cf21) cf22) cf23) cf24) cf25) cf26) cf27) cf28) cf29) cf30) cf31)
theorem over : Rows.fnTrapsRow.holds Tryz.pinned (OpenSpec.ofChange Rows.fnTrapsSpec) :=
  OpenClaim.holds_of_wide 5 Tryz.f5 rfl rfl rfl rfl rfl rfl rfl ⟨rfl, rfl, rfl, rfl, rfl⟩ rfl rfl rfl rfl rfl (by kernel_rfl) Tryz.func5 closed
    (of_decide_eq_true (by kernel_rfl)) (by unfold Func.isWrapper; first | (rw [if_pos (by decide +kernel)]; kernel_rfl) | (rw [if_neg (by decide +kernel)]; exact ⟨rfl, rfl⟩))
    (fun os started H enc _ => lifted os started H enc)
theorem proved : Rows.FnTrapsSaid := over
end Go.Proofs.YtebbaacgalipaaaGreat.fnTraps
namespace Go.Proofs.YtebbaacgalipaaaGreat
theorem fnTraps_holds : Rows.FnTrapsSaid := fnTraps.proved
end Go.Proofs.YtebbaacgalipaaaGreat
