/- A part of the proof of FnExactTurnDoor: the statement itself: the program answers true for every input and leaves its argument as it was. No condition. -/
import Derived.Test.YtoigeobocefoiaaFnExactTurnDoorF
import Derived.Test.YtoigeobocefoiaaFnExactTurnDoorG
import Derived.Test.YtoigeobocefoiaaFnExactTurnDoorH
import Derived.Test.YtoigeobocefoiaaFnExactTurnDoorI
/- The row of the law FnExactTurnDoor, whole. -/
namespace Go.Proofs.Ytoigeobocefoiaa.fnExactTurnDoor
open Go Go.ChangeShapes Go.WideShapes Go.ChangeAt Go.RowKit
set_option linter.unusedVariables false
theorem andT {a b : Bool} (h : a = true) (k : b = true) : (a && b) = true := by rw [h, k]; rfl
set_option maxRecDepth 100000 in
theorem closed : joinedFacts Try.prog 3 Try.f3 Rows.fnExactTurnDoorSpec Rows.fnExactTurnDoorRow = true := (andT (andT (andT (andT (andT (andT (andT (andT (andT (andT (andT (andT (andT (andT (andT (andT (andT (andT (andT (andT (andT (andT (andT (andT (andT (andT (andT (andT (andT (andT (andT cf0 cf1) cf2) cf3) cf4) cf5) cf6) cf7) cf8) cf9) cf10) cf11) cf12) cf13) cf14) cf15) cf16) cf17) cf18) cf19) cf20) cf21) cf22) cf23) cf24) cf25) cf26) cf27) cf28) cf29) cf30) cf31)
theorem over : Rows.fnExactTurnDoorRow.holds Try.pinned (OpenSpec.ofChange Rows.fnExactTurnDoorSpec) :=
  OpenClaim.holds_of_wide 3 Try.f3 rfl rfl rfl rfl rfl rfl rfl ⟨rfl, rfl, rfl, rfl, rfl⟩ rfl rfl rfl rfl rfl (by kernel_rfl) Try.func3 closed
    (of_decide_eq_true (by kernel_rfl)) (by unfold Func.isWrapper; first | (rw [if_pos (by decide +kernel)]; kernel_rfl) | (rw [if_neg (by decide +kernel)]; exact ⟨rfl, rfl⟩))
    (fun os started H enc _ => lifted os started H enc)
theorem proved : Rows.FnExactTurnDoorSaid := over
end Go.Proofs.Ytoigeobocefoiaa.fnExactTurnDoor
namespace Go.Proofs.Ytoigeobocefoiaa
theorem fnExactTurnDoor_holds : Rows.FnExactTurnDoorSaid := fnExactTurnDoor.proved
end Go.Proofs.Ytoigeobocefoiaa
