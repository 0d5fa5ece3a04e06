/- A part of the proof of FnExactSyncLog: the statement itself: the program answers true for every input and leaves its argument as it was. No condition. -/
import Derived.Handed
import Derived.LaidMore
import Derived.Lib.LaidTab
import Derived.OpenShut
import Derived.ProofKit
import Derived.Stop.Joined
import Derived.Stop.LaidErr
import Derived.Test.YtbgkifpfeicfpaaDoorRows
import Derived.Test.YtbgkifpfeicfpaaDoorFnExactSyncLogB
import Derived.Test.YtbgkifpfeicfpaaDoorFnExactSyncLogD
import Derived.Test.YtbgkifpfeicfpaaDoorFnExactSyncLogE
/- The row of the law FnExactSyncLog: its pure law and its walk, joined. -/
namespace Go.Proofs.YtbgkifpfeicfpaaDoor.fnExactSyncLog
open Go Go.Ga Go.Ga.Rp Go.Ga.Flat Go.Ga.Wf Go.ChangeShapes Go.WideShapes Go.ChangeAt Go.RowKit
open Go.ChangeMaps (open_string shut_string)
set_option linter.unusedVariables false
set_option maxHeartbeats 4000000
theorem opnT9 : Opn Tryd.prog 9 (ByteArray) := opn_string Tryd.underlying9
theorem opnT3 : Opn Tryd.prog 3 (Int) := opn_int Tryd.underlying3
theorem opnT36 : Opn Tryd.prog 36 (ByteArray × ByteArray × Int) := opn_struct (N := 3) Tryd.underlying36 (by kernel_rfl) (opnFs_cons opnT9 rfl (by kernel_rfl) (opnFs_cons opnT9 rfl (by kernel_rfl) (opnFs_one opnT3 rfl (by kernel_rfl))))
theorem opR36 {w : World} {cs : List Value} {t : ByteArray × ByteArray × Int} (h : rep w (fun _ => True) cs t) : cs = [.string t.1, .string t.2.1, .int .i64 t.2.2] := by
  obtain ⟨_, _, rfl, h0, ⟨_, _, rfl, h1, h2⟩⟩ := h
  rw [Flat.rp h0]
  rw [Flat.rp h1]
  rw [Flat.rp h2]
  rfl
theorem own : ownKnob Tryd.prog.godebug = none := by kernel_rfl
theorem laidOut : laidOutB Tryd.prog = true := by kernel_rfl
theorem gT : Tryd.prog.globalNamed "internal/strconv.uint64pow10" = some 1 := by kernel_rfl
theorem gTy : (Tryd.prog.globals[1]?).map (·.type) = some 138 := by kernel_rfl
theorem cE : Tryd.prog.cellsOf 124 = 1 := by kernel_rfl
theorem cT : Tryd.prog.cellsOf 138 = 20 := by kernel_rfl
theorem door_met (os : Os) (args : Array Value) : laidMetH Tryd.prog Rows.fnExactSyncLogRow.laid ((World.doorLaid Tryd.prog 4000 os).forCall (fun _ _ => 0) ⟨#[], args, []⟩).memory :=
  laidMetH_of_parts3 (fuel := 8) (laidMet_of_run' 8 (by kernel_rfl) (by kernel_rfl)) (by kernel_rfl) (by kernel_rfl)
set_option maxRecDepth 100000 in
theorem lifted (os : Os) (started : os.Started) (H : Type) (enc : TypeId × Value → H) :
    ReturnsInHanded {} Tryd.checked os 7 .any (fun w args => (Rows.fnExactSyncLogSpec.pre enc Tryd.prog Tryd.f7 Rows.fnExactSyncLogRow.domain false w args ∧ laidMetH Tryd.prog Rows.fnExactSyncLogRow.laid w) ∧ sizedMet enc Tryd.prog Tryd.f7 (OpenSpec.ofChange Rows.fnExactSyncLogSpec) false w args) (Rows.fnExactSyncLogSpec.post enc Tryd.prog Tryd.f7 false true false false) := by
  refine returnsInHanded_of_change_and (C := Tryd.checked) (X := fun w _ => laidMetH Tryd.prog Rows.fnExactSyncLogRow.laid w) (fun _ _ _ hh h => h.of_heap hh) own started (by kernel_rfl) Tryd.func7
    (ChangeSpec.witness_shaped (enc := enc) (C := Tryd.checked) (os := os) (X := fun w _ => laidMetH Tryd.prog Rows.fnExactSyncLogRow.laid w) false (World.doorLaid Tryd.prog 4000 os) #[.agg #[.string ByteArray.empty, .string ByteArray.empty, .int .i64 0]] 8 rfl (World.shaped_of_RefB (by kernel_rfl) (by kernel_rfl)) (by kernel_rfl) (by kernel_rfl) (by kernel_rfl) (door_met os _)) ?_
  intro W base args ds gs before hval0 hW hcnd _ hL _
  rw [MakeChecks.laidMetH_plain _ _ _ (by kernel_rfl)] at hL
  have htab : Lib.TabIs Tryd.prog W "internal/strconv.uint64pow10" .u64 Lib.pow10Tab := Lib.tabIs_of_head (rest := []) gT gTy Tryd.underlying138 Tryd.underlying124 cE cT hL.tail.tail
  have hval : ∀ (j : Nat) t v, Tryd.f7.params[j]? = some t → args[j]? = some v → Value.okWide Tryd.prog W .any base t v := hval0
  have hW' := hW
  obtain ⟨p, q, hA0, hV, rfl, hfz, hnd⟩ := hW
  have hA : DataW.TrodAll enc Tryd.prog W 0 (fun _ => true) true Tryd.f7.params.toList args.toList ds p := hA0
  rw [Tryd.params7] at hA hval
  obtain ⟨u0, us0, d0, ds0, p0, q0, hargs, rfl, rfl, h0, z0⟩ := trodAll_cons hA
  obtain ⟨rfl, rfl, rfl⟩ := trodAll_nil z0
  obtain rfl : args = #[u0] := by cases args; simp_all
  obtain ⟨rfl, rfl⟩ := trodVars_none hV
  have lt0 : ∀ x ∈ p0, x.block < W.heap.size := by obtain ⟨m, hm⟩ := h0; exact DataW.trod_lt m _ _ _ hm
  obtain ⟨cs0, rfl, _⟩ := okWide_struct Tryd.underlying36 (hval 0 36 u0 rfl rfl)
  obtain ⟨fu0, hf0⟩ := id h0
  obtain ⟨x0, hx0, hw0⟩ := opnT36 enc W 0 _ true _ _ _ (fun _ => rfl) hf0
  have hc0 := opR36 hx0
  obtain ⟨cs0⟩ := cs0
  simp only [Value.cells] at hc0
  subst hc0
  obtain ⟨k, hk⟩ := laws_FnExactSyncLog.pure x0 hw0
  refine (laws_FnExactSyncLog.ok hk W htab).mono fun e W' ⟨he, ext⟩ => ?_
  subst he
  have bel := Ext.below ext
  exact ⟨_, rfl, _, _, _, [], _, [], hW', trodAll_mk1 (shut_bool Tryd.underlying4 _), (trodAll_cons_mk (Below.trod laidOut (by kernel_rfl) (of_decide_eq_true (by kernel_rfl)) h0 bel lt0) trodAll_mk0), rfl, bel.frame _, fun h => by cases h⟩
theorem cf0 : (Rows.fnExactSyncLogRow.wf (OpenSpec.ofChange Rows.fnExactSyncLogSpec)) = true := by kernel_rfl
theorem cf1 : laidOutB Tryd.prog = true := laidOut
theorem cf2 : (mapsRowed Tryd.prog) = true := by kernel_rfl
theorem cf3 : (Tryd.f7.params.all (Tryd.prog.readableRec ·)) = true := by kernel_rfl
theorem cf4 : (namedTie Tryd.prog Rows.fnExactSyncLogRow.named Rows.fnExactSyncLogSpec.vars) = true := by kernel_rfl
theorem cf5 : ((Rows.fnExactSyncLogRow.stops == [])) = true := by kernel_rfl
theorem cf6 : ((Tryd.prog.stops == [])) = true := by kernel_rfl
theorem cf7 : ((Rows.fnExactSyncLogRow.knobs == [])) = true := by kernel_rfl
theorem cf8 : ((Tryd.prog.stopKnobs == [])) = true := by kernel_rfl
theorem cf9 : ((Rows.fnExactSyncLogRow.inPlace == Tryd.prog.inPlace 7)) = true := by kernel_rfl
theorem cf10 : ((Rows.fnExactSyncLogRow.unfollowed == Tryd.prog.unfollowed 7)) = true := by kernel_rfl
theorem cf11 : ((Rows.fnExactSyncLogRow.recurses == Tryd.prog.recurses 7)) = true := by kernel_rfl
theorem cf12 : ((Rows.fnExactSyncLogRow.named == Tryd.prog.varsNamed 7)) = true := by kernel_rfl
theorem cf13 : ((Rows.fnExactSyncLogRow.maps == (Tryd.f7.params.toList ++ Rows.fnExactSyncLogSpec.plain.varTypes Tryd.prog).any (Tryd.prog.mapsRec ·))) = true := by kernel_rfl
theorem cf14 : ((Rows.fnExactSyncLogRow.ifaces == (Tryd.f7.params.toList ++ Rows.fnExactSyncLogSpec.plain.varTypes Tryd.prog).any (Tryd.prog.ifacesRec ·))) = true := by kernel_rfl
theorem cf15 : ((Rows.fnExactSyncLogRow.mapsOut == Tryd.prog.mapsAmong Tryd.f7.resultTypes.toList)) = true := by kernel_rfl
theorem cf16 : ((Rows.fnExactSyncLogRow.loops == (Tryd.f7.params.toList ++ Rows.fnExactSyncLogSpec.plain.varTypes Tryd.prog).any (Tryd.prog.loopsFrom ·))) = true := by kernel_rfl
theorem cf17 : ((Rows.fnExactSyncLogRow.wideKeys == (Tryd.f7.params.toList ++ Rows.fnExactSyncLogSpec.plain.varTypes Tryd.prog ++ Tryd.f7.resultTypes.toList).any (Tryd.prog.wideKeysFrom ·))) = true := by kernel_rfl
theorem cf18 : (Rows.fnExactSyncLogSpec.vars.all (Tryd.prog.varReadable ·)) = true := by kernel_rfl
theorem cf19 : (Tryd.f7.resultTypes.all (fun t => Tryd.prog.readableRec t && decide (t < Tryd.prog.types.size))) = true := by kernel_rfl
theorem cf20 : ((Rows.fnExactSyncLogRow.ifacesOut == Tryd.f7.resultTypes.toList.any (Tryd.prog.ifacesRec ·))) = true := by kernel_rfl
theorem cf21 : ((Rows.fnExactSyncLogRow.loopsOut == Tryd.f7.resultTypes.toList.any (Tryd.prog.loopsFrom ·))) = true := by kernel_rfl
theorem cf22 : ((Rows.fnExactSyncLogRow.plainKeys == Tryd.prog.plainKeys)) = true := by kernel_rfl
theorem cf23 : (Rows.fnExactSyncLogRow.shortTexts.isNone) = true := by kernel_rfl
theorem cf24 : (Tryd.prog.stopsHeard) = true := by kernel_rfl
theorem cf28 : ((Rows.fnExactSyncLogRow.kinds == (if Rows.fnExactSyncLogRow.domain.isEmpty then [] else Tryd.f7.params.toList.map fun t => match Tryd.prog.underlying t with  |  some (.int k) => some k  |  _ => none))) = true := by kernel_rfl
theorem cf29 : ((Rows.fnExactSyncLogRow.pinned == Rows.fnExactSyncLogRow.pinnedBy)) = true := by kernel_rfl
theorem cf30 : ((Rows.fnExactSyncLogRow.veiled == (Tryd.f7.params.toList ++ Rows.fnExactSyncLogSpec.plain.varTypes Tryd.prog ++ Tryd.f7.resultTypes.toList).any (Tryd.prog.veiledRec ·))) = true := by kernel_rfl
theorem cf31 : (Rows.fnExactSyncLogRow.veiledFits Tryd.prog Tryd.f7.params.toList (Tryd.f7.params.toList ++ Rows.fnExactSyncLogSpec.plain.varTypes Tryd.prog ++ Tryd.f7.resultTypes.toList)) = true := by kernel_rfl
end Go.Proofs.YtbgkifpfeicfpaaDoor.fnExactSyncLog
