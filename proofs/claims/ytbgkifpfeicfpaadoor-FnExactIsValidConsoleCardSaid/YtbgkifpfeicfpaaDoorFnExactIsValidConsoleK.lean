/- A part of the proof of FnExactIsValidConsole: the statement itself: the program answers true for every input and leaves its argument as it was. No condition. -/
import Derived.SevenTiedAt
import Derived.Test.YtbgkifpfeicfpaaDoorCards
import Derived.Test.YtbgkifpfeicfpaaDoorTie
import Derived.Test.YtbgkifpfeicfpaaDoorFnExactIsValidConsoleG
import Derived.Test.YtbgkifpfeicfpaaDoorFnExactIsValidConsoleH
import Derived.Test.YtbgkifpfeicfpaaDoorFnExactIsValidConsoleI
import Derived.Test.YtbgkifpfeicfpaaDoorFnExactIsValidConsoleJ
/- The row of the law FnExactIsValidConsole, whole. -/
namespace Go.Proofs.YtbgkifpfeicfpaaDoor.fnExactIsValidConsole
open Go Go.ChangeShapes Go.WideShapes Go.ChangeAt Go.RowKit
set_option linter.unusedVariables false
theorem andT {a b : Bool} (h : a = true) (k : b = true) : (a && b) = true := by rw [h, k]; rfl
set_option maxRecDepth 100000 in
theorem closed : joinedFacts Tryd.prog 10 Tryd.f10 Rows.fnExactIsValidConsoleSpec Rows.fnExactIsValidConsoleRow = true := (andT (andT (andT (andT (andT (andT (andT (andT (andT (andT (andT (andT (andT (andT (andT (andT (andT (andT (andT (andT (andT (andT (andT (andT (andT (andT (andT (andT (andT (andT (andT cf0 cf1) cf2) cf3) cf4) cf5) cf6) cf7) cf8) cf9) cf10) cf11) cf12) cf13) cf14) cf15) cf16) cf17) cf18) cf19) cf20) cf21) cf22) cf23) cf24) cf25) cf26) cf27) cf28) cf29) cf30) cf31)
theorem over : Rows.fnExactIsValidConsoleRow.holds Tryd.pinned (OpenSpec.ofChange Rows.fnExactIsValidConsoleSpec) :=
  OpenClaim.holds_of_wide 10 Tryd.f10 rfl rfl rfl rfl rfl rfl rfl ⟨rfl, rfl, rfl, rfl, rfl⟩ rfl rfl rfl rfl rfl (by kernel_rfl) Tryd.func10 closed
    (of_decide_eq_true (by kernel_rfl)) (by unfold Func.isWrapper; first | (rw [if_pos (by decide +kernel)]; kernel_rfl) | (rw [if_neg (by decide +kernel)]; exact ⟨rfl, rfl⟩))
    (fun os started H enc _ => lifted os started H enc)
theorem proved : Rows.FnExactIsValidConsoleSaid := over
theorem card : Rows.FnExactIsValidConsoleCardSaid :=
  Claim7.holds_tied_plain_at .later [] [.data, .data, .data] true (true, "d1eeb4aab7038c7fa2ccb46bbae277ba6e79734d3246cf9a36bcd75c92eefb4e") false
    over (fun _ h => by cases h) (by kernel_rfl) (fun _ h => by cases h) fnExactIsValidConsole_row_tie rfl ⟨rfl, rfl⟩ (by kernel_rfl) rfl
    (fun f fn hf hfn => by
      obtain rfl : f = 10 := Option.some.inj ((show Tryd.prog.funcNamed "loop.example/g01158/laws.FnExactIsValidConsole" = some 10 by kernel_rfl).symm.trans hf) |>.symm
      obtain rfl : fn = Tryd.f10 := (Option.some.inj (Tryd.func10.symm.trans hfn)).symm
      exact ⟨by kernel_rfl, fun j t ht => by
        rw [Tryd.params10] at ht
        have hm : t ∈ [60] := by simpa using Array.mem_of_getElem? ht
        have hall : ([60].all fun u => !Tryd.prog.wantsStandIn u) = true := by kernel_rfl
        exact (show Tryd.prog.wantsStandIn t = false by simpa using List.all_eq_true.1 hall t hm)⟩)
    (by kernel_rfl)
end Go.Proofs.YtbgkifpfeicfpaaDoor.fnExactIsValidConsole
namespace Go.Proofs.YtbgkifpfeicfpaaDoor
theorem fnExactIsValidConsole_holds : Rows.FnExactIsValidConsoleCardSaid := fnExactIsValidConsole.card
end Go.Proofs.YtbgkifpfeicfpaaDoor
