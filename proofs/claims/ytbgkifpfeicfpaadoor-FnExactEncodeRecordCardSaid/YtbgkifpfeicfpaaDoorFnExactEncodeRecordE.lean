/- A part of the proof of FnExactEncodeRecord: the statement itself: the program answers true for every input and leaves its argument as it was. No condition. -/
import Derived.Handed
import Derived.LaidMore
import Derived.Lib.LaidTab
import Derived.OpenShut
import Derived.ProofKit
import Derived.Stop.Joined
import Derived.Stop.LaidErr
import Derived.Test.YtbgkifpfeicfpaaDoorRows
import Derived.Test.YtbgkifpfeicfpaaDoorFnExactEncodeRecordB
import Derived.Test.YtbgkifpfeicfpaaDoorFnExactEncodeRecordC
import Derived.Test.YtbgkifpfeicfpaaDoorFnExactEncodeRecordD
/- The row of the law FnExactEncodeRecord: its pure law and its walk, joined. -/
namespace Go.Proofs.YtbgkifpfeicfpaaDoor.fnExactEncodeRecord
open Go Go.Ga Go.Ga.Rp Go.Ga.Flat Go.Ga.Wf Go.ChangeShapes Go.WideShapes Go.ChangeAt Go.RowKit
open Go.ChangeMaps (open_string shut_string)
set_option linter.unusedVariables false
set_option maxHeartbeats 4000000
theorem opnT3 : Opn Tryd.prog 3 (Int) := opn_int Tryd.underlying3
theorem opR3 {w : World} {cs : List Value} {t : Int} (h : rep w (fun _ => True) cs t) : cs = [.int .i64 t] := by
  have h0 := h
  rw [Flat.rp h0]
  rfl
theorem opnT9 : Opn Tryd.prog 9 (ByteArray) := opn_string Tryd.underlying9
theorem opnT23 : Opn Tryd.prog 23 (ByteArray × ByteArray) := opn_struct (N := 2) Tryd.underlying23 (by kernel_rfl) (opnFs_cons opnT9 rfl (by kernel_rfl) (opnFs_one opnT9 rfl (by kernel_rfl)))
theorem opR23 {w : World} {cs : List Value} {t : ByteArray × ByteArray} (h : rep w (fun _ => True) cs t) : cs = [.string t.1, .string t.2] := by
  obtain ⟨_, _, rfl, h0, h1⟩ := h
  rw [Flat.rp h0]
  rw [Flat.rp h1]
  rfl
theorem own : ownKnob Tryd.prog.godebug = none := by kernel_rfl
theorem laidOut : laidOutB Tryd.prog = true := by kernel_rfl
theorem gT : Tryd.prog.globalNamed "internal/strconv.uint64pow10" = some 1 := by kernel_rfl
theorem gTy : (Tryd.prog.globals[1]?).map (·.type) = some 138 := by kernel_rfl
theorem cE : Tryd.prog.cellsOf 124 = 1 := by kernel_rfl
theorem cT : Tryd.prog.cellsOf 138 = 20 := by kernel_rfl
theorem door_met (os : Os) (args : Array Value) : laidMetH Tryd.prog Rows.fnExactEncodeRecordRow.laid ((World.doorLaid Tryd.prog 4000 os).forCall (fun _ _ => 0) ⟨#[], args, []⟩).memory :=
  laidMetH_of_parts3 (fuel := 8) (laidMet_of_run' 8 (by kernel_rfl) (by kernel_rfl)) (by kernel_rfl) (by kernel_rfl)
set_option maxRecDepth 100000 in
theorem lifted (os : Os) (started : os.Started) (H : Type) (enc : TypeId × Value → H) :
    ReturnsInHanded {} Tryd.checked os 3 .any (fun w args => (Rows.fnExactEncodeRecordSpec.pre enc Tryd.prog Tryd.f3 Rows.fnExactEncodeRecordRow.domain false w args ∧ laidMetH Tryd.prog Rows.fnExactEncodeRecordRow.laid w) ∧ sizedMet enc Tryd.prog Tryd.f3 (OpenSpec.ofChange Rows.fnExactEncodeRecordSpec) false w args) (Rows.fnExactEncodeRecordSpec.post enc Tryd.prog Tryd.f3 false true false false) := by
  refine returnsInHanded_of_change_and (C := Tryd.checked) (X := fun w _ => laidMetH Tryd.prog Rows.fnExactEncodeRecordRow.laid w) (fun _ _ _ hh h => h.of_heap hh) own started (by kernel_rfl) Tryd.func3
    (ChangeSpec.witness_shaped (enc := enc) (C := Tryd.checked) (os := os) (X := fun w _ => laidMetH Tryd.prog Rows.fnExactEncodeRecordRow.laid w) false (World.doorLaid Tryd.prog 4000 os) #[.int .i64 0, .agg #[.string ByteArray.empty, .string ByteArray.empty]] 8 rfl (World.shaped_of_RefB (by kernel_rfl) (by kernel_rfl)) (by kernel_rfl) (by kernel_rfl) (by kernel_rfl) (door_met os _)) ?_
  intro W base args ds gs before hval0 hW hcnd _ hL _
  rw [MakeChecks.laidMetH_plain _ _ _ (by kernel_rfl)] at hL
  have htab : Lib.TabIs Tryd.prog W "internal/strconv.uint64pow10" .u64 Lib.pow10Tab := Lib.tabIs_of_head (rest := []) gT gTy Tryd.underlying138 Tryd.underlying124 cE cT hL.tail.tail
  have hval : ∀ (j : Nat) t v, Tryd.f3.params[j]? = some t → args[j]? = some v → Value.okWide Tryd.prog W .any base t v := hval0
  have hW' := hW
  obtain ⟨p, q, hA0, hV, rfl, hfz, hnd⟩ := hW
  have hA : DataW.TrodAll enc Tryd.prog W 0 (fun _ => true) true Tryd.f3.params.toList args.toList ds p := hA0
  rw [Tryd.params3] at hA hval
  obtain ⟨u0, us0, d0, ds0, p0, q0, hargs, rfl, rfl, h0, z0⟩ := trodAll_cons hA
  obtain ⟨u1, us1, d1, ds1, p1, q1, rfl, rfl, rfl, h1, z1⟩ := trodAll_cons z0
  obtain ⟨rfl, rfl, rfl⟩ := trodAll_nil z1
  obtain rfl : args = #[u0, u1] := by cases args; simp_all
  obtain ⟨rfl, rfl⟩ := trodVars_none hV
  have lt0 : ∀ x ∈ p0, x.block < W.heap.size := by obtain ⟨m, hm⟩ := h0; exact DataW.trod_lt m _ _ _ hm
  obtain ⟨a0, rfl⟩ := okWide_int Tryd.underlying3 (hval 0 3 u0 rfl rfl)
  obtain ⟨fu0, hf0⟩ := id h0
  obtain ⟨x0, hx0, hw0⟩ := opnT3 enc W 0 _ true _ _ _ (fun _ => rfl) hf0
  have hc0 := opR3 hx0
  simp only [Value.cells, List.cons.injEq, and_true] at hc0
  injection hc0 with _ hc0
  subst hc0
  have lt1 : ∀ x ∈ p1, x.block < W.heap.size := by obtain ⟨m, hm⟩ := h1; exact DataW.trod_lt m _ _ _ hm
  obtain ⟨cs1, rfl, _⟩ := okWide_struct Tryd.underlying23 (hval 1 23 u1 rfl rfl)
  obtain ⟨fu1, hf1⟩ := id h1
  obtain ⟨x1, hx1, hw1⟩ := opnT23 enc W 0 _ true _ _ _ (fun _ => rfl) hf1
  have hc1 := opR23 hx1
  obtain ⟨cs1⟩ := cs1
  simp only [Value.cells] at hc1
  subst hc1
  obtain ⟨k, hk⟩ := laws_FnExactEncodeRecord.pure a0 x1 hw0 hw1
  refine (laws_FnExactEncodeRecord.ok hk W htab).mono fun e W' ⟨he, ext⟩ => ?_
  subst he
  have bel := Ext.below ext
  exact ⟨_, rfl, _, _, _, [], _, [], hW', trodAll_mk1 (shut_bool Tryd.underlying4 _), (trodAll_cons_mk (Below.trod laidOut (by kernel_rfl) (of_decide_eq_true (by kernel_rfl)) h0 bel lt0) (trodAll_cons_mk (Below.trod laidOut (by kernel_rfl) (of_decide_eq_true (by kernel_rfl)) h1 bel lt1) trodAll_mk0)), rfl, bel.frame _, fun h => by cases h⟩
theorem cf0 : (Rows.fnExactEncodeRecordRow.wf (OpenSpec.ofChange Rows.fnExactEncodeRecordSpec)) = true := by kernel_rfl
theorem cf1 : laidOutB Tryd.prog = true := laidOut
theorem cf2 : (mapsRowed Tryd.prog) = true := by kernel_rfl
theorem cf3 : (Tryd.f3.params.all (Tryd.prog.readableRec ·)) = true := by kernel_rfl
theorem cf4 : (namedTie Tryd.prog Rows.fnExactEncodeRecordRow.named Rows.fnExactEncodeRecordSpec.vars) = true := by kernel_rfl
theorem cf5 : ((Rows.fnExactEncodeRecordRow.stops == [])) = true := by kernel_rfl
theorem cf6 : ((Tryd.prog.stops == [])) = true := by kernel_rfl
theorem cf7 : ((Rows.fnExactEncodeRecordRow.knobs == [])) = true := by kernel_rfl
theorem cf8 : ((Tryd.prog.stopKnobs == [])) = true := by kernel_rfl
theorem cf9 : ((Rows.fnExactEncodeRecordRow.inPlace == Tryd.prog.inPlace 3)) = true := by kernel_rfl
theorem cf10 : ((Rows.fnExactEncodeRecordRow.unfollowed == Tryd.prog.unfollowed 3)) = true := by kernel_rfl
theorem cf11 : ((Rows.fnExactEncodeRecordRow.recurses == Tryd.prog.recurses 3)) = true := by kernel_rfl
theorem cf12 : ((Rows.fnExactEncodeRecordRow.named == Tryd.prog.varsNamed 3)) = true := by kernel_rfl
theorem cf13 : ((Rows.fnExactEncodeRecordRow.maps == (Tryd.f3.params.toList ++ Rows.fnExactEncodeRecordSpec.plain.varTypes Tryd.prog).any (Tryd.prog.mapsRec ·))) = true := by kernel_rfl
theorem cf14 : ((Rows.fnExactEncodeRecordRow.ifaces == (Tryd.f3.params.toList ++ Rows.fnExactEncodeRecordSpec.plain.varTypes Tryd.prog).any (Tryd.prog.ifacesRec ·))) = true := by kernel_rfl
theorem cf15 : ((Rows.fnExactEncodeRecordRow.mapsOut == Tryd.prog.mapsAmong Tryd.f3.resultTypes.toList)) = true := by kernel_rfl
theorem cf16 : ((Rows.fnExactEncodeRecordRow.loops == (Tryd.f3.params.toList ++ Rows.fnExactEncodeRecordSpec.plain.varTypes Tryd.prog).any (Tryd.prog.loopsFrom ·))) = true := by kernel_rfl
theorem cf17 : ((Rows.fnExactEncodeRecordRow.wideKeys == (Tryd.f3.params.toList ++ Rows.fnExactEncodeRecordSpec.plain.varTypes Tryd.prog ++ Tryd.f3.resultTypes.toList).any (Tryd.prog.wideKeysFrom ·))) = true := by kernel_rfl
theorem cf18 : (Rows.fnExactEncodeRecordSpec.vars.all (Tryd.prog.varReadable ·)) = true := by kernel_rfl
theorem cf19 : (Tryd.f3.resultTypes.all (fun t => Tryd.prog.readableRec t && decide (t < Tryd.prog.types.size))) = true := by kernel_rfl
theorem cf20 : ((Rows.fnExactEncodeRecordRow.ifacesOut == Tryd.f3.resultTypes.toList.any (Tryd.prog.ifacesRec ·))) = true := by kernel_rfl
theorem cf21 : ((Rows.fnExactEncodeRecordRow.loopsOut == Tryd.f3.resultTypes.toList.any (Tryd.prog.loopsFrom ·))) = true := by kernel_rfl
theorem cf22 : ((Rows.fnExactEncodeRecordRow.plainKeys == Tryd.prog.plainKeys)) = true := by kernel_rfl
theorem cf23 : (Rows.fnExactEncodeRecordRow.shortTexts.isNone) = true := by kernel_rfl
theorem cf24 : (Tryd.prog.stopsHeard) = true := by kernel_rfl
theorem cf28 : ((Rows.fnExactEncodeRecordRow.kinds == (if Rows.fnExactEncodeRecordRow.domain.isEmpty then [] else Tryd.f3.params.toList.map fun t => match Tryd.prog.underlying t with  |  some (.int k) => some k  |  _ => none))) = true := by kernel_rfl
theorem cf29 : ((Rows.fnExactEncodeRecordRow.pinned == Rows.fnExactEncodeRecordRow.pinnedBy)) = true := by kernel_rfl
theorem cf30 : ((Rows.fnExactEncodeRecordRow.veiled == (Tryd.f3.params.toList ++ Rows.fnExactEncodeRecordSpec.plain.varTypes Tryd.prog ++ Tryd.f3.resultTypes.toList).any (Tryd.prog.veiledRec ·))) = true := by kernel_rfl
theorem cf31 : (Rows.fnExactEncodeRecordRow.veiledFits Tryd.prog Tryd.f3.params.toList (Tryd.f3.params.toList ++ Rows.fnExactEncodeRecordSpec.plain.varTypes Tryd.prog ++ Tryd.f3.resultTypes.toList)) = true := by kernel_rfl
end Go.Proofs.YtbgkifpfeicfpaaDoor.fnExactEncodeRecord
