/- A part of the proof of FnExactIsValidConsole: the statement itself: the program answers true for every input and leaves its argument as it was. No condition. -/
import Derived.Handed
import Derived.LaidMore
import Derived.Lib.LaidTab
import Derived.OpenShut
import Derived.ProofKit
import Derived.Stop.Joined
import Derived.Stop.LaidErr
import Derived.Test.YtbgkifpfeicfpaaDoorRows
import Derived.Test.YtbgkifpfeicfpaaDoorFnExactIsValidConsoleB
import Derived.Test.YtbgkifpfeicfpaaDoorFnExactIsValidConsoleE
import Derived.Test.YtbgkifpfeicfpaaDoorFnExactIsValidConsoleF
/- The row of the law FnExactIsValidConsole: its pure law and its walk, joined. -/
namespace Go.Proofs.YtbgkifpfeicfpaaDoor.fnExactIsValidConsole
open Go Go.Ga Go.Ga.Rp Go.Ga.Flat Go.Ga.Wf Go.ChangeShapes Go.WideShapes Go.ChangeAt Go.RowKit
open Go.ChangeMaps (open_string shut_string)
set_option linter.unusedVariables false
set_option maxHeartbeats 4000000
theorem opnT3 : Opn Tryd.prog 3 (Int) := opn_int Tryd.underlying3
theorem opnT114 : Opn Tryd.prog 114 (Int × Int × Int) := opn_arr3 Tryd.underlying114 (by kernel_rfl) (by kernel_rfl) opnT3
theorem opnT53 : Opn Tryd.prog 53 (List (Int × Int × Int)) := opn_slice Tryd.underlying53 (by kernel_rfl) (by decide) opnT114
theorem opnT54 : Opn Tryd.prog 54 (List Int) := opn_slice Tryd.underlying54 (by kernel_rfl) (by decide) opnT3
theorem opnT56 : Opn Tryd.prog 56 (Int × List (Int × Int × Int) × List Int) := opn_struct (N := 3) Tryd.underlying56 (by kernel_rfl) (opnFs_cons opnT3 rfl (by kernel_rfl) (opnFs_cons opnT53 rfl (by kernel_rfl) (opnFs_one opnT54 rfl (by kernel_rfl))))
theorem opnT58 : Opn Tryd.prog 58 (Int × List (Int × Int × Int) × List Int × List Int × Int) := opn_struct (N := 5) Tryd.underlying58 (by kernel_rfl) (OpnFs.cv (opnFs_cons opnT56 rfl (by kernel_rfl) (opnFs_cons opnT54 rfl (by kernel_rfl) (opnFs_one opnT3 rfl (by kernel_rfl)))) (Cv.assoc.trans (Cv.right (Cv.assoc))))
theorem opnT9 : Opn Tryd.prog 9 (ByteArray) := opn_string Tryd.underlying9
theorem opnT36 : Opn Tryd.prog 36 (ByteArray × ByteArray × Int) := opn_struct (N := 3) Tryd.underlying36 (by kernel_rfl) (opnFs_cons opnT9 rfl (by kernel_rfl) (opnFs_cons opnT9 rfl (by kernel_rfl) (opnFs_one opnT3 rfl (by kernel_rfl))))
theorem opnT60 : Opn Tryd.prog 60 (Int × List (Int × Int × Int) × List Int × List Int × Int × ByteArray × ByteArray × Int) := opn_struct (N := 8) Tryd.underlying60 (by kernel_rfl) (OpnFs.cv (opnFs_cons opnT58 rfl (by kernel_rfl) (opnFs_one opnT36 rfl (by kernel_rfl))) (Cv.assoc.trans (Cv.right (Cv.assoc.trans (Cv.right (Cv.assoc.trans (Cv.right (Cv.assoc))))))))
theorem opR60 {w : World} {cs : List Value} {t : Int × List (Int × Int × Int) × List Int × List Int × Int × ByteArray × ByteArray × Int} (h : rep w (fun _ => True) cs t) : ∃ v1 v2 v3 : Value, cs = [.int .i64 t.1, v1, v2, v3, .int .i64 t.2.2.2.2.1, .string t.2.2.2.2.2.1, .string t.2.2.2.2.2.2.1, .int .i64 t.2.2.2.2.2.2.2] ∧ Rd w v1 t.2.1 ∧ Rd w v2 t.2.2.1 ∧ Rd w v3 t.2.2.2.1 := by
  obtain ⟨_, _, rfl, h0, ⟨_, _, rfl, ⟨v1, rfl, h1⟩, ⟨_, _, rfl, ⟨v2, rfl, h2⟩, ⟨_, _, rfl, ⟨v3, rfl, h3⟩, ⟨_, _, rfl, h4, ⟨_, _, rfl, h5, ⟨_, _, rfl, h6, h7⟩⟩⟩⟩⟩⟩⟩ := h
  rw [Flat.rp h0]
  rw [Flat.rp h4]
  rw [Flat.rp h5]
  rw [Flat.rp h6]
  rw [Flat.rp h7]
  exact ⟨v1, v2, v3, rfl, h1, h2, h3⟩
theorem own : ownKnob Tryd.prog.godebug = none := by kernel_rfl
theorem laidOut : laidOutB Tryd.prog = true := by kernel_rfl
theorem gT : Tryd.prog.globalNamed "internal/strconv.uint64pow10" = some 1 := by kernel_rfl
theorem gTy : (Tryd.prog.globals[1]?).map (·.type) = some 138 := by kernel_rfl
theorem cE : Tryd.prog.cellsOf 124 = 1 := by kernel_rfl
theorem cT : Tryd.prog.cellsOf 138 = 20 := by kernel_rfl
theorem door_met (os : Os) (args : Array Value) : laidMetH Tryd.prog Rows.fnExactIsValidConsoleRow.laid ((World.doorLaid Tryd.prog 4000 os).forCall (fun _ _ => 0) ⟨#[], args, []⟩).memory :=
  laidMetH_of_parts3 (fuel := 8) (laidMet_of_run' 8 (by kernel_rfl) (by kernel_rfl)) (by kernel_rfl) (by kernel_rfl)
set_option maxRecDepth 100000 in
theorem lifted (os : Os) (started : os.Started) (H : Type) (enc : TypeId × Value → H) :
    ReturnsInHanded {} Tryd.checked os 10 .any (fun w args => (Rows.fnExactIsValidConsoleSpec.pre enc Tryd.prog Tryd.f10 Rows.fnExactIsValidConsoleRow.domain false w args ∧ laidMetH Tryd.prog Rows.fnExactIsValidConsoleRow.laid w) ∧ sizedMet enc Tryd.prog Tryd.f10 (OpenSpec.ofChange Rows.fnExactIsValidConsoleSpec) false w args) (Rows.fnExactIsValidConsoleSpec.post enc Tryd.prog Tryd.f10 false true false false) := by
  refine returnsInHanded_of_change_and (C := Tryd.checked) (X := fun w _ => laidMetH Tryd.prog Rows.fnExactIsValidConsoleRow.laid w) (fun _ _ _ hh h => h.of_heap hh) own started (by kernel_rfl) Tryd.func10
    (ChangeSpec.witness_shaped (enc := enc) (C := Tryd.checked) (os := os) (X := fun w _ => laidMetH Tryd.prog Rows.fnExactIsValidConsoleRow.laid w) false (World.doorLaid Tryd.prog 4000 os) #[.agg #[.int .i64 0, .slice none 0 0, .slice none 0 0, .slice none 0 0, .int .i64 0, .string ByteArray.empty, .string ByteArray.empty, .int .i64 0]] 8 rfl (World.shaped_of_RefB (by kernel_rfl) (by kernel_rfl)) (by kernel_rfl) (by kernel_rfl) (by kernel_rfl) (door_met os _)) ?_
  intro W base args ds gs before hval0 hW hcnd _ hL _
  rw [MakeChecks.laidMetH_plain _ _ _ (by kernel_rfl)] at hL
  have htab : Lib.TabIs Tryd.prog W "internal/strconv.uint64pow10" .u64 Lib.pow10Tab := Lib.tabIs_of_head (rest := []) gT gTy Tryd.underlying138 Tryd.underlying124 cE cT hL.tail.tail
  have hval : ∀ (j : Nat) t v, Tryd.f10.params[j]? = some t → args[j]? = some v → Value.okWide Tryd.prog W .any base t v := hval0
  have hW' := hW
  obtain ⟨p, q, hA0, hV, rfl, hfz, hnd⟩ := hW
  have hA : DataW.TrodAll enc Tryd.prog W 0 (fun _ => true) true Tryd.f10.params.toList args.toList ds p := hA0
  rw [Tryd.params10] at hA hval
  obtain ⟨u0, us0, d0, ds0, p0, q0, hargs, rfl, rfl, h0, z0⟩ := trodAll_cons hA
  obtain ⟨rfl, rfl, rfl⟩ := trodAll_nil z0
  obtain rfl : args = #[u0] := by cases args; simp_all
  obtain ⟨rfl, rfl⟩ := trodVars_none hV
  have lt0 : ∀ x ∈ p0, x.block < W.heap.size := by obtain ⟨m, hm⟩ := h0; exact DataW.trod_lt m _ _ _ hm
  obtain ⟨cs0, rfl, _⟩ := okWide_struct Tryd.underlying60 (hval 0 60 u0 rfl rfl)
  obtain ⟨fu0, hf0⟩ := id h0
  obtain ⟨x0, hx0, hw0⟩ := opnT60 enc W 0 _ true _ _ _ (fun _ => rfl) hf0
  obtain ⟨v0_1, v0_2, v0_3, hc0, r0_1, r0_2, r0_3⟩ := opR60 hx0
  obtain ⟨cs0⟩ := cs0
  simp only [Value.cells] at hc0
  subst hc0
  obtain ⟨k, hk⟩ := laws_FnExactIsValidConsole.pure x0 hw0
  refine (laws_FnExactIsValidConsole.ok hk W r0_1 r0_2 r0_3 htab).mono fun e W' ⟨he, ext⟩ => ?_
  subst he
  have bel := Ext.below ext
  exact ⟨_, rfl, _, _, _, [], _, [], hW', trodAll_mk1 (shut_bool Tryd.underlying4 _), (trodAll_cons_mk (Below.trod laidOut (by kernel_rfl) (of_decide_eq_true (by kernel_rfl)) h0 bel lt0) trodAll_mk0), rfl, bel.frame _, fun h => by cases h⟩
theorem cf0 : (Rows.fnExactIsValidConsoleRow.wf (OpenSpec.ofChange Rows.fnExactIsValidConsoleSpec)) = true := by kernel_rfl
theorem cf1 : laidOutB Tryd.prog = true := laidOut
theorem cf2 : (mapsRowed Tryd.prog) = true := by kernel_rfl
theorem cf3 : (Tryd.f10.params.all (Tryd.prog.readableRec ·)) = true := by kernel_rfl
theorem cf4 : (namedTie Tryd.prog Rows.fnExactIsValidConsoleRow.named Rows.fnExactIsValidConsoleSpec.vars) = true := by kernel_rfl
theorem cf5 : ((Rows.fnExactIsValidConsoleRow.stops == [])) = true := by kernel_rfl
theorem cf6 : ((Tryd.prog.stops == [])) = true := by kernel_rfl
theorem cf7 : ((Rows.fnExactIsValidConsoleRow.knobs == [])) = true := by kernel_rfl
theorem cf8 : ((Tryd.prog.stopKnobs == [])) = true := by kernel_rfl
theorem cf9 : ((Rows.fnExactIsValidConsoleRow.inPlace == Tryd.prog.inPlace 10)) = true := by kernel_rfl
theorem cf10 : ((Rows.fnExactIsValidConsoleRow.unfollowed == Tryd.prog.unfollowed 10)) = true := by kernel_rfl
theorem cf11 : ((Rows.fnExactIsValidConsoleRow.recurses == Tryd.prog.recurses 10)) = true := by kernel_rfl
theorem cf12 : ((Rows.fnExactIsValidConsoleRow.named == Tryd.prog.varsNamed 10)) = true := by kernel_rfl
theorem cf13 : ((Rows.fnExactIsValidConsoleRow.maps == (Tryd.f10.params.toList ++ Rows.fnExactIsValidConsoleSpec.plain.varTypes Tryd.prog).any (Tryd.prog.mapsRec ·))) = true := by kernel_rfl
theorem cf14 : ((Rows.fnExactIsValidConsoleRow.ifaces == (Tryd.f10.params.toList ++ Rows.fnExactIsValidConsoleSpec.plain.varTypes Tryd.prog).any (Tryd.prog.ifacesRec ·))) = true := by kernel_rfl
theorem cf15 : ((Rows.fnExactIsValidConsoleRow.mapsOut == Tryd.prog.mapsAmong Tryd.f10.resultTypes.toList)) = true := by kernel_rfl
theorem cf16 : ((Rows.fnExactIsValidConsoleRow.loops == (Tryd.f10.params.toList ++ Rows.fnExactIsValidConsoleSpec.plain.varTypes Tryd.prog).any (Tryd.prog.loopsFrom ·))) = true := by kernel_rfl
theorem cf17 : ((Rows.fnExactIsValidConsoleRow.wideKeys == (Tryd.f10.params.toList ++ Rows.fnExactIsValidConsoleSpec.plain.varTypes Tryd.prog ++ Tryd.f10.resultTypes.toList).any (Tryd.prog.wideKeysFrom ·))) = true := by kernel_rfl
theorem cf18 : (Rows.fnExactIsValidConsoleSpec.vars.all (Tryd.prog.varReadable ·)) = true := by kernel_rfl
theorem cf19 : (Tryd.f10.resultTypes.all (fun t => Tryd.prog.readableRec t && decide (t < Tryd.prog.types.size))) = true := by kernel_rfl
theorem cf20 : ((Rows.fnExactIsValidConsoleRow.ifacesOut == Tryd.f10.resultTypes.toList.any (Tryd.prog.ifacesRec ·))) = true := by kernel_rfl
theorem cf21 : ((Rows.fnExactIsValidConsoleRow.loopsOut == Tryd.f10.resultTypes.toList.any (Tryd.prog.loopsFrom ·))) = true := by kernel_rfl
theorem cf22 : ((Rows.fnExactIsValidConsoleRow.plainKeys == Tryd.prog.plainKeys)) = true := by kernel_rfl
theorem cf23 : (Rows.fnExactIsValidConsoleRow.shortTexts.isNone) = true := by kernel_rfl
theorem cf24 : (Tryd.prog.stopsHeard) = true := by kernel_rfl
theorem cf28 : ((Rows.fnExactIsValidConsoleRow.kinds == (if Rows.fnExactIsValidConsoleRow.domain.isEmpty then [] else Tryd.f10.params.toList.map fun t => match Tryd.prog.underlying t with  |  some (.int k) => some k  |  _ => none))) = true := by kernel_rfl
theorem cf29 : ((Rows.fnExactIsValidConsoleRow.pinned == Rows.fnExactIsValidConsoleRow.pinnedBy)) = true := by kernel_rfl
theorem cf30 : ((Rows.fnExactIsValidConsoleRow.veiled == (Tryd.f10.params.toList ++ Rows.fnExactIsValidConsoleSpec.plain.varTypes Tryd.prog ++ Tryd.f10.resultTypes.toList).any (Tryd.prog.veiledRec ·))) = true := by kernel_rfl
theorem cf31 : (Rows.fnExactIsValidConsoleRow.veiledFits Tryd.prog Tryd.f10.params.toList (Tryd.f10.params.toList ++ Rows.fnExactIsValidConsoleSpec.plain.varTypes Tryd.prog ++ Tryd.f10.resultTypes.toList)) = true := by kernel_rfl
end Go.Proofs.YtbgkifpfeicfpaaDoor.fnExactIsValidConsole
