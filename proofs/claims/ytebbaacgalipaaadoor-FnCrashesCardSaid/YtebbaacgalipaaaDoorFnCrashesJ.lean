/- A part of the proof of FnCrashes: the statement itself: the program answers true for every input and leaves its argument as it was. No condition. -/
import Derived.SevenTiedAt
import Derived.Test.YtebbaacgalipaaaDoorCards
import Derived.Test.YtebbaacgalipaaaDoorTie
import Derived.Test.YtebbaacgalipaaaDoorFnCrashesF
import Derived.Test.YtebbaacgalipaaaDoorFnCrashesG
import Derived.Test.YtebbaacgalipaaaDoorFnCrashesH
import Derived.Test.YtebbaacgalipaaaDoorFnCrashesI
/- The row of the law FnCrashes, whole. -/
namespace Go.Proofs.YtebbaacgalipaaaDoor.fnCrashes
open Go Go.ChangeShapes Go.WideShapes Go.ChangeAt Go.RowKit
set_option linter.unusedVariables false
theorem andT {a b : Bool} (h : a = true) (k : b = true) : (a && b) = true := by rw [h, k]; rfl
set_option maxRecDepth 100000 in
theorem closed : joinedFacts Tryd.prog 4 Tryd.f4 Rows.fnCrashesSpec Rows.fnCrashesRow = true := (andT (andT (andT (andT (andT (andT (andT (andT (andT (andT (andT (andT (andT (andT (andT (andT (andT (andT (andT (andT (andT (andT (andT (andT (andT (andT (andT (andT (andT (andT (andT cf0 cf1) cf2) cf3) cf4) cf5) cf6) cf7) cf8) cf9) cf10) cf11) cf12) cf13) cf14) cf15) cf16) cf17) cf18) cf19) cf20) cf21) cf22) cf23) cf24) cf25) cf26) cf27) cf28) cf29) cf30) cf31)
theorem over : Rows.fnCrashesRow.holds Tryd.pinned (OpenSpec.ofChange Rows.fnCrashesSpec) :=
  OpenClaim.holds_of_wide 4 Tryd.f4 rfl rfl rfl rfl rfl rfl rfl ⟨rfl, rfl, rfl, rfl, rfl⟩ rfl rfl rfl rfl rfl (by kernel_rfl) Tryd.func4 closed
    (of_decide_eq_true (by kernel_rfl)) (by unfold Func.isWrapper; first | (rw [if_pos (by decide +kernel)]; kernel_rfl) | (rw [if_neg (by decide +kernel)]; exact ⟨rfl, rfl⟩))
    (fun os started H enc _ => lifted os started H enc)
theorem proved : Rows.FnCrashesSaid := over
theorem card : Rows.FnCrashesCardSaid :=
  Claim7.holds_tied_plain_at .later [] [.data, .data, .data] true (true, "9c21a815abfd43c8cf92e0548a14c314b5bfa5f7f7509a411ef952c30f79d728") false
    over (fun _ h => by cases h) (by kernel_rfl) (fun _ h => by cases h) fnCrashes_row_tie rfl ⟨rfl, rfl⟩ (by kernel_rfl) rfl
    (fun f fn hf hfn => by
      obtain rfl : f = 4 := Option.some.inj ((show Tryd.prog.funcNamed "loop.example/g01158/laws.FnCrashes" = some 4 by kernel_rfl).symm.trans hf) |>.symm
      obtain rfl : fn = Tryd.f4 := (Option.some.inj (Tryd.func4.symm.trans hfn)).symm
      exact ⟨by kernel_rfl, fun j t ht => by
        rw [Tryd.params4] at ht
        have hm : t ∈ [22] := by simpa using Array.mem_of_getElem? ht
        have hall : ([22].all fun u => !Tryd.prog.wantsStandIn u) = true := by kernel_rfl
        exact (show Tryd.prog.wantsStandIn t = false by simpa using List.all_eq_true.1 hall t hm)⟩)
    (by kernel_rfl)
end Go.Proofs.YtebbaacgalipaaaDoor.fnCrashes
namespace Go.Proofs.YtebbaacgalipaaaDoor
theorem fnCrashes_holds : Rows.FnCrashesCardSaid := fnCrashes.card
end Go.Proofs.YtebbaacgalipaaaDoor
