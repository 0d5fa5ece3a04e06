/- A part of the proof of FnCrashes: the statement itself: the program answers true for every input and leaves its argument as it was. No condition. -/
import Derived.Handed
import Derived.LaidMore
import Derived.Lib.LaidTab
import Derived.OpenShut
import Derived.ProofKit
import Derived.Stop.Joined
import Derived.Stop.LaidErr
import Derived.Test.YtebbaacgalipaaaDoorRows
import Derived.Test.YtebbaacgalipaaaDoorFnCrashesA
import Derived.Test.YtebbaacgalipaaaDoorFnCrashesD
import Derived.Test.YtebbaacgalipaaaDoorFnCrashesE
/- The row of the law FnCrashes: its pure law and its walk, joined. -/
namespace Go.Proofs.YtebbaacgalipaaaDoor.fnCrashes
open Go Go.Ga Go.Ga.Rp Go.Ga.Flat Go.Ga.Wf Go.ChangeShapes Go.WideShapes Go.ChangeAt Go.RowKit
open Go.ChangeMaps (open_string shut_string)
set_option linter.unusedVariables false
set_option maxHeartbeats 4000000
theorem opnT5 : Opn Tryd.prog 5 (By) := opn_by Tryd.underlying5
theorem opnT22 : Opn Tryd.prog 22 (List By) := opn_slice Tryd.underlying22 (by kernel_rfl) (by decide) opnT5
theorem opR22 {w : World} {cs : List Value} {t : List By} (h : rep w (fun _ => True) cs t) : ∃ v0 : Value, cs = [v0] ∧ Rd w v0 t := by
  obtain ⟨v0, rfl, h0⟩ := h
  exact ⟨v0, rfl, h0⟩
theorem own : ownKnob Tryd.prog.godebug = none := by kernel_rfl
theorem laidOut : laidOutB Tryd.prog = true := by kernel_rfl
theorem gT : Tryd.prog.globalNamed "internal/strconv.uint64pow10" = some 1 := by kernel_rfl
theorem gTy : (Tryd.prog.globals[1]?).map (·.type) = some 100 := by kernel_rfl
theorem cE : Tryd.prog.cellsOf 53 = 1 := by kernel_rfl
theorem cT : Tryd.prog.cellsOf 100 = 20 := by kernel_rfl
theorem door_met (os : Os) (args : Array Value) : laidMetH Tryd.prog Rows.fnCrashesRow.laid ((World.doorLaid Tryd.prog 4000 os).forCall (fun _ _ => 0) ⟨#[], args, []⟩).memory :=
  laidMetH_of_parts3 (fuel := 8) (laidMet_of_run' 8 (by kernel_rfl) (by kernel_rfl)) (by kernel_rfl) (by kernel_rfl)
set_option maxRecDepth 100000 in
theorem lifted (os : Os) (started : os.Started) (H : Type) (enc : TypeId × Value → H) :
    ReturnsInHanded {} Tryd.checked os 4 .any (fun w args => (Rows.fnCrashesSpec.pre enc Tryd.prog Tryd.f4 Rows.fnCrashesRow.domain false w args ∧ laidMetH Tryd.prog Rows.fnCrashesRow.laid w) ∧ sizedMet enc Tryd.prog Tryd.f4 (OpenSpec.ofChange Rows.fnCrashesSpec) false w args) (Rows.fnCrashesSpec.post enc Tryd.prog Tryd.f4 false true false false) := by
  refine returnsInHanded_of_change_and (C := Tryd.checked) (X := fun w _ => laidMetH Tryd.prog Rows.fnCrashesRow.laid w) (fun _ _ _ hh h => h.of_heap hh) own started (by kernel_rfl) Tryd.func4
    (ChangeSpec.witness_shaped (enc := enc) (C := Tryd.checked) (os := os) (X := fun w _ => laidMetH Tryd.prog Rows.fnCrashesRow.laid w) false (World.doorLaid Tryd.prog 4000 os) #[.slice none 0 0] 8 rfl (World.shaped_of_RefB (by kernel_rfl) (by kernel_rfl)) (by kernel_rfl) (by kernel_rfl) (by kernel_rfl) (door_met os _)) ?_
  intro W base args ds gs before hval0 hW hcnd _ hL _
  rw [MakeChecks.laidMetH_plain _ _ _ (by kernel_rfl)] at hL
  have htab : Lib.TabIs Tryd.prog W "internal/strconv.uint64pow10" .u64 Lib.pow10Tab := Lib.tabIs_of_head (rest := []) gT gTy Tryd.underlying100 Tryd.underlying53 cE cT hL.tail.tail
  have hval : ∀ (j : Nat) t v, Tryd.f4.params[j]? = some t → args[j]? = some v → Value.okWide Tryd.prog W .any base t v := hval0
  have hW' := hW
  obtain ⟨p, q, hA0, hV, rfl, hfz, hnd⟩ := hW
  have hA : DataW.TrodAll enc Tryd.prog W 0 (fun _ => true) true Tryd.f4.params.toList args.toList ds p := hA0
  rw [Tryd.params4] at hA hval
  obtain ⟨u0, us0, d0, ds0, p0, q0, hargs, rfl, rfl, h0, z0⟩ := trodAll_cons hA
  obtain ⟨rfl, rfl, rfl⟩ := trodAll_nil z0
  obtain rfl : args = #[u0] := by cases args; simp_all
  obtain ⟨rfl, rfl⟩ := trodVars_none hV
  have lt0 : ∀ x ∈ p0, x.block < W.heap.size := by obtain ⟨m, hm⟩ := h0; exact DataW.trod_lt m _ _ _ hm
  obtain ⟨sa0, sl0, sc0, rfl⟩ := okWide_slice Tryd.underlying22 (hval 0 22 u0 rfl rfl)
  obtain ⟨fu0, hf0⟩ := id h0
  obtain ⟨x0, hx0, hw0⟩ := opnT22 enc W 0 _ true _ _ _ (fun _ => rfl) hf0
  obtain ⟨v0_0, hc0, r0_0⟩ := opR22 hx0
  simp only [Value.cells, List.cons.injEq, and_true] at hc0
  subst hc0
  obtain ⟨k, hk⟩ := laws_FnCrashes.pure x0 hw0
  refine (laws_FnCrashes.ok hk W r0_0 htab).mono fun e W' ⟨he, ext⟩ => ?_
  subst he
  have bel := Ext.below ext
  exact ⟨_, rfl, _, _, _, [], _, [], hW', trodAll_mk1 (shut_bool Tryd.underlying4 _), (trodAll_cons_mk (Below.trod laidOut (by kernel_rfl) (of_decide_eq_true (by kernel_rfl)) h0 bel lt0) trodAll_mk0), rfl, bel.frame _, fun h => by cases h⟩
theorem cf0 : (Rows.fnCrashesRow.wf (OpenSpec.ofChange Rows.fnCrashesSpec)) = true := by kernel_rfl
theorem cf1 : laidOutB Tryd.prog = true := laidOut
theorem cf2 : (mapsRowed Tryd.prog) = true := by kernel_rfl
theorem cf3 : (Tryd.f4.params.all (Tryd.prog.readableRec ·)) = true := by kernel_rfl
theorem cf4 : (namedTie Tryd.prog Rows.fnCrashesRow.named Rows.fnCrashesSpec.vars) = true := by kernel_rfl
theorem cf5 : ((Rows.fnCrashesRow.stops == [])) = true := by kernel_rfl
theorem cf6 : ((Tryd.prog.stops == [])) = true := by kernel_rfl
theorem cf7 : ((Rows.fnCrashesRow.knobs == [])) = true := by kernel_rfl
theorem cf8 : ((Tryd.prog.stopKnobs == [])) = true := by kernel_rfl
theorem cf9 : ((Rows.fnCrashesRow.inPlace == Tryd.prog.inPlace 4)) = true := by kernel_rfl
theorem cf10 : ((Rows.fnCrashesRow.unfollowed == Tryd.prog.unfollowed 4)) = true := by kernel_rfl
theorem cf11 : ((Rows.fnCrashesRow.recurses == Tryd.prog.recurses 4)) = true := by kernel_rfl
theorem cf12 : ((Rows.fnCrashesRow.named == Tryd.prog.varsNamed 4)) = true := by kernel_rfl
theorem cf13 : ((Rows.fnCrashesRow.maps == (Tryd.f4.params.toList ++ Rows.fnCrashesSpec.plain.varTypes Tryd.prog).any (Tryd.prog.mapsRec ·))) = true := by kernel_rfl
theorem cf14 : ((Rows.fnCrashesRow.ifaces == (Tryd.f4.params.toList ++ Rows.fnCrashesSpec.plain.varTypes Tryd.prog).any (Tryd.prog.ifacesRec ·))) = true := by kernel_rfl
theorem cf15 : ((Rows.fnCrashesRow.mapsOut == Tryd.prog.mapsAmong Tryd.f4.resultTypes.toList)) = true := by kernel_rfl
theorem cf16 : ((Rows.fnCrashesRow.loops == (Tryd.f4.params.toList ++ Rows.fnCrashesSpec.plain.varTypes Tryd.prog).any (Tryd.prog.loopsFrom ·))) = true := by kernel_rfl
theorem cf17 : ((Rows.fnCrashesRow.wideKeys == (Tryd.f4.params.toList ++ Rows.fnCrashesSpec.plain.varTypes Tryd.prog ++ Tryd.f4.resultTypes.toList).any (Tryd.prog.wideKeysFrom ·))) = true := by kernel_rfl
theorem cf18 : (Rows.fnCrashesSpec.vars.all (Tryd.prog.varReadable ·)) = true := by kernel_rfl
theorem cf19 : (Tryd.f4.resultTypes.all (fun t => Tryd.prog.readableRec t && decide (t < Tryd.prog.types.size))) = true := by kernel_rfl
theorem cf20 : ((Rows.fnCrashesRow.ifacesOut == Tryd.f4.resultTypes.toList.any (Tryd.prog.ifacesRec ·))) = true := by kernel_rfl
theorem cf21 : ((Rows.fnCrashesRow.loopsOut == Tryd.f4.resultTypes.toList.any (Tryd.prog.loopsFrom ·))) = true := by kernel_rfl
theorem cf22 : ((Rows.fnCrashesRow.plainKeys == Tryd.prog.plainKeys)) = true := by kernel_rfl
theorem cf23 : (Rows.fnCrashesRow.shortTexts.isNone) = true := by kernel_rfl
theorem cf24 : (Tryd.prog.stopsHeard) = true := by kernel_rfl
theorem cf28 : ((Rows.fnCrashesRow.kinds == (if Rows.fnCrashesRow.domain.isEmpty then [] else Tryd.f4.params.toList.map fun t => match Tryd.prog.underlying t with  |  some (.int k) => some k  |  _ => none))) = true := by kernel_rfl
theorem cf29 : ((Rows.fnCrashesRow.pinned == Rows.fnCrashesRow.pinnedBy)) = true := by kernel_rfl
theorem cf30 : ((Rows.fnCrashesRow.veiled == (Tryd.f4.params.toList ++ Rows.fnCrashesSpec.plain.varTypes Tryd.prog ++ Tryd.f4.resultTypes.toList).any (Tryd.prog.veiledRec ·))) = true := by kernel_rfl
theorem cf31 : (Rows.fnCrashesRow.veiledFits Tryd.prog Tryd.f4.params.toList (Tryd.f4.params.toList ++ Rows.fnCrashesSpec.plain.varTypes Tryd.prog ++ Tryd.f4.resultTypes.toList)) = true := by kernel_rfl
end Go.Proofs.YtebbaacgalipaaaDoor.fnCrashes
