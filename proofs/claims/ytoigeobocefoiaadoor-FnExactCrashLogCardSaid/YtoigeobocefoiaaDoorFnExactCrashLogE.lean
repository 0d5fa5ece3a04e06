/- A part of the proof of FnExactCrashLog: the statement itself: the program answers true for every input and leaves its argument as it was. No condition. -/
import Derived.Handed
import Derived.LaidMore
import Derived.Lib.LaidTab
import Derived.OpenShut
import Derived.ProofKit
import Derived.Stop.Joined
import Derived.Stop.LaidErr
import Derived.Test.YtoigeobocefoiaaDoorRows
import Derived.Test.YtoigeobocefoiaaDoorFnExactCrashLogA
import Derived.Test.YtoigeobocefoiaaDoorFnExactCrashLogC
import Derived.Test.YtoigeobocefoiaaDoorFnExactCrashLogD
/- The row of the law FnExactCrashLog: its pure law and its walk, joined. -/
namespace Go.Proofs.YtoigeobocefoiaaDoor.fnExactCrashLog
open Go Go.Ga Go.Ga.Rp Go.Ga.Flat Go.Ga.Wf Go.ChangeShapes Go.WideShapes Go.ChangeAt Go.RowKit
open Go.ChangeMaps (open_string shut_string)
set_option linter.unusedVariables false
set_option maxHeartbeats 4000000
theorem opnT9 : Opn Tryd.prog 9 (ByteArray) := opn_string Tryd.underlying9
theorem opnT3 : Opn Tryd.prog 3 (Int) := opn_int Tryd.underlying3
theorem opnT23 : Opn Tryd.prog 23 (ByteArray × ByteArray × Int) := opn_struct (N := 3) Tryd.underlying23 (by kernel_rfl) (opnFs_cons opnT9 rfl (by kernel_rfl) (opnFs_cons opnT9 rfl (by kernel_rfl) (opnFs_one opnT3 rfl (by kernel_rfl))))
theorem opR23 {w : World} {cs : List Value} {t : ByteArray × ByteArray × Int} (h : rep w (fun _ => True) cs t) : cs = [.string t.1, .string t.2.1, .int .i64 t.2.2] := by
  obtain ⟨_, _, rfl, h0, ⟨_, _, rfl, h1, h2⟩⟩ := h
  rw [Flat.rp h0]
  rw [Flat.rp h1]
  rw [Flat.rp h2]
  rfl
theorem opR3 {w : World} {cs : List Value} {t : Int} (h : rep w (fun _ => True) cs t) : cs = [.int .i64 t] := by
  have h0 := h
  rw [Flat.rp h0]
  rfl
theorem opnT4 : Opn Tryd.prog 4 (Bool) := opn_bool Tryd.underlying4
theorem opR4 {w : World} {cs : List Value} {t : Bool} (h : rep w (fun _ => True) cs t) : cs = [.bool t] := by
  have h0 := h
  rw [Flat.rp h0]
  rfl
theorem own : ownKnob Tryd.prog.godebug = none := by kernel_rfl
theorem laidOut : laidOutB Tryd.prog = true := by kernel_rfl
theorem gT : Tryd.prog.globalNamed "internal/strconv.uint64pow10" = some 1 := by kernel_rfl
theorem gTy : (Tryd.prog.globals[1]?).map (·.type) = some 77 := by kernel_rfl
theorem cE : Tryd.prog.cellsOf 68 = 1 := by kernel_rfl
theorem cT : Tryd.prog.cellsOf 77 = 20 := by kernel_rfl
theorem door_met (os : Os) (args : Array Value) : laidMetH Tryd.prog Rows.fnExactCrashLogRow.laid ((World.doorLaid Tryd.prog 4000 os).forCall (fun _ _ => 0) ⟨#[], args, []⟩).memory :=
  laidMetH_of_parts3 (fuel := 8) (laidMet_of_run' 8 (by kernel_rfl) (by kernel_rfl)) (by kernel_rfl) (by kernel_rfl)
set_option maxRecDepth 100000 in
theorem lifted (os : Os) (started : os.Started) (H : Type) (enc : TypeId × Value → H) :
    ReturnsInHanded {} Tryd.checked os 3 .any (fun w args => (Rows.fnExactCrashLogSpec.pre enc Tryd.prog Tryd.f3 Rows.fnExactCrashLogRow.domain false w args ∧ laidMetH Tryd.prog Rows.fnExactCrashLogRow.laid w) ∧ sizedMet enc Tryd.prog Tryd.f3 (OpenSpec.ofChange Rows.fnExactCrashLogSpec) false w args) (Rows.fnExactCrashLogSpec.post enc Tryd.prog Tryd.f3 false true false false) := by
  refine returnsInHanded_of_change_and (C := Tryd.checked) (X := fun w _ => laidMetH Tryd.prog Rows.fnExactCrashLogRow.laid w) (fun _ _ _ hh h => h.of_heap hh) own started (by kernel_rfl) Tryd.func3
    (ChangeSpec.witness_shaped (enc := enc) (C := Tryd.checked) (os := os) (X := fun w _ => laidMetH Tryd.prog Rows.fnExactCrashLogRow.laid w) false (World.doorLaid Tryd.prog 4000 os) #[.agg #[.string ByteArray.empty, .string ByteArray.empty, .int .i64 0], .int .i64 0, .bool false] 8 rfl (World.shaped_of_RefB (by kernel_rfl) (by kernel_rfl)) (by kernel_rfl) (by kernel_rfl) (by kernel_rfl) (door_met os _)) ?_
  intro W base args ds gs before hval0 hW hcnd _ hL _
  rw [MakeChecks.laidMetH_plain _ _ _ (by kernel_rfl)] at hL
  have htab : Lib.TabIs Tryd.prog W "internal/strconv.uint64pow10" .u64 Lib.pow10Tab := Lib.tabIs_of_head (rest := []) gT gTy Tryd.underlying77 Tryd.underlying68 cE cT hL.tail.tail
  have hval : ∀ (j : Nat) t v, Tryd.f3.params[j]? = some t → args[j]? = some v → Value.okWide Tryd.prog W .any base t v := hval0
  have hW' := hW
  obtain ⟨p, q, hA0, hV, rfl, hfz, hnd⟩ := hW
  have hA : DataW.TrodAll enc Tryd.prog W 0 (fun _ => true) true Tryd.f3.params.toList args.toList ds p := hA0
  rw [Tryd.params3] at hA hval
  obtain ⟨u0, us0, d0, ds0, p0, q0, hargs, rfl, rfl, h0, z0⟩ := trodAll_cons hA
  obtain ⟨u1, us1, d1, ds1, p1, q1, rfl, rfl, rfl, h1, z1⟩ := trodAll_cons z0
  obtain ⟨u2, us2, d2, ds2, p2, q2, rfl, rfl, rfl, h2, z2⟩ := trodAll_cons z1
  obtain ⟨rfl, rfl, rfl⟩ := trodAll_nil z2
  obtain rfl : args = #[u0, u1, u2] := by cases args; simp_all
  obtain ⟨rfl, rfl⟩ := trodVars_none hV
  have lt0 : ∀ x ∈ p0, x.block < W.heap.size := by obtain ⟨m, hm⟩ := h0; exact DataW.trod_lt m _ _ _ hm
  obtain ⟨cs0, rfl, _⟩ := okWide_struct Tryd.underlying23 (hval 0 23 u0 rfl rfl)
  obtain ⟨fu0, hf0⟩ := id h0
  obtain ⟨x0, hx0, hw0⟩ := opnT23 enc W 0 _ true _ _ _ (fun _ => rfl) hf0
  have hc0 := opR23 hx0
  obtain ⟨cs0⟩ := cs0
  simp only [Value.cells] at hc0
  subst hc0
  have lt1 : ∀ x ∈ p1, x.block < W.heap.size := by obtain ⟨m, hm⟩ := h1; exact DataW.trod_lt m _ _ _ hm
  obtain ⟨a1, rfl⟩ := okWide_int Tryd.underlying3 (hval 1 3 u1 rfl rfl)
  obtain ⟨fu1, hf1⟩ := id h1
  obtain ⟨x1, hx1, hw1⟩ := opnT3 enc W 0 _ true _ _ _ (fun _ => rfl) hf1
  have hc1 := opR3 hx1
  simp only [Value.cells, List.cons.injEq, and_true] at hc1
  injection hc1 with _ hc1
  subst hc1
  have lt2 : ∀ x ∈ p2, x.block < W.heap.size := by obtain ⟨m, hm⟩ := h2; exact DataW.trod_lt m _ _ _ hm
  obtain ⟨a2, rfl⟩ := okWide_bool Tryd.underlying4 (hval 2 4 u2 rfl rfl)
  obtain ⟨fu2, hf2⟩ := id h2
  obtain ⟨x2, hx2, hw2⟩ := opnT4 enc W 0 _ true _ _ _ (fun _ => rfl) hf2
  have hc2 := opR4 hx2
  simp only [Value.cells, List.cons.injEq, and_true] at hc2
  injection hc2 with hc2
  subst hc2
  obtain ⟨k, hk⟩ := laws_FnExactCrashLog.pure x0 a1 a2 hw0 hw1 hw2
  refine (laws_FnExactCrashLog.ok hk W htab).mono fun e W' ⟨he, ext⟩ => ?_
  subst he
  have bel := Ext.below ext
  exact ⟨_, rfl, _, _, _, [], _, [], hW', trodAll_mk1 (shut_bool Tryd.underlying4 _), (trodAll_cons_mk (Below.trod laidOut (by kernel_rfl) (of_decide_eq_true (by kernel_rfl)) h0 bel lt0) (trodAll_cons_mk (Below.trod laidOut (by kernel_rfl) (of_decide_eq_true (by kernel_rfl)) h1 bel lt1) (trodAll_cons_mk (Below.trod laidOut (by kernel_rfl) (of_decide_eq_true (by kernel_rfl)) h2 bel lt2) trodAll_mk0))), rfl, bel.frame _, fun h => by cases h⟩
theorem cf0 : (Rows.fnExactCrashLogRow.wf (OpenSpec.ofChange Rows.fnExactCrashLogSpec)) = true := by kernel_rfl
theorem cf1 : laidOutB Tryd.prog = true := laidOut
theorem cf2 : (mapsRowed Tryd.prog) = true := by kernel_rfl
theorem cf3 : (Tryd.f3.params.all (Tryd.prog.readableRec ·)) = true := by kernel_rfl
theorem cf4 : (namedTie Tryd.prog Rows.fnExactCrashLogRow.named Rows.fnExactCrashLogSpec.vars) = true := by kernel_rfl
theorem cf5 : ((Rows.fnExactCrashLogRow.stops == [])) = true := by kernel_rfl
theorem cf6 : ((Tryd.prog.stops == [])) = true := by kernel_rfl
theorem cf7 : ((Rows.fnExactCrashLogRow.knobs == [])) = true := by kernel_rfl
theorem cf8 : ((Tryd.prog.stopKnobs == [])) = true := by kernel_rfl
theorem cf9 : ((Rows.fnExactCrashLogRow.inPlace == Tryd.prog.inPlace 3)) = true := by kernel_rfl
theorem cf10 : ((Rows.fnExactCrashLogRow.unfollowed == Tryd.prog.unfollowed 3)) = true := by kernel_rfl
theorem cf11 : ((Rows.fnExactCrashLogRow.recurses == Tryd.prog.recurses 3)) = true := by kernel_rfl
theorem cf12 : ((Rows.fnExactCrashLogRow.named == Tryd.prog.varsNamed 3)) = true := by kernel_rfl
theorem cf13 : ((Rows.fnExactCrashLogRow.maps == (Tryd.f3.params.toList ++ Rows.fnExactCrashLogSpec.plain.varTypes Tryd.prog).any (Tryd.prog.mapsRec ·))) = true := by kernel_rfl
theorem cf14 : ((Rows.fnExactCrashLogRow.ifaces == (Tryd.f3.params.toList ++ Rows.fnExactCrashLogSpec.plain.varTypes Tryd.prog).any (Tryd.prog.ifacesRec ·))) = true := by kernel_rfl
theorem cf15 : ((Rows.fnExactCrashLogRow.mapsOut == Tryd.prog.mapsAmong Tryd.f3.resultTypes.toList)) = true := by kernel_rfl
theorem cf16 : ((Rows.fnExactCrashLogRow.loops == (Tryd.f3.params.toList ++ Rows.fnExactCrashLogSpec.plain.varTypes Tryd.prog).any (Tryd.prog.loopsFrom ·))) = true := by kernel_rfl
theorem cf17 : ((Rows.fnExactCrashLogRow.wideKeys == (Tryd.f3.params.toList ++ Rows.fnExactCrashLogSpec.plain.varTypes Tryd.prog ++ Tryd.f3.resultTypes.toList).any (Tryd.prog.wideKeysFrom ·))) = true := by kernel_rfl
theorem cf18 : (Rows.fnExactCrashLogSpec.vars.all (Tryd.prog.varReadable ·)) = true := by kernel_rfl
theorem cf19 : (Tryd.f3.resultTypes.all (fun t => Tryd.prog.readableRec t && decide (t < Tryd.prog.types.size))) = true := by kernel_rfl
theorem cf20 : ((Rows.fnExactCrashLogRow.ifacesOut == Tryd.f3.resultTypes.toList.any (Tryd.prog.ifacesRec ·))) = true := by kernel_rfl
theorem cf21 : ((Rows.fnExactCrashLogRow.loopsOut == Tryd.f3.resultTypes.toList.any (Tryd.prog.loopsFrom ·))) = true := by kernel_rfl
theorem cf22 : ((Rows.fnExactCrashLogRow.plainKeys == Tryd.prog.plainKeys)) = true := by kernel_rfl
theorem cf23 : (Rows.fnExactCrashLogRow.shortTexts.isNone) = true := by kernel_rfl
theorem cf24 : (Tryd.prog.stopsHeard) = true := by kernel_rfl
theorem cf28 : ((Rows.fnExactCrashLogRow.kinds == (if Rows.fnExactCrashLogRow.domain.isEmpty then [] else Tryd.f3.params.toList.map fun t => match Tryd.prog.underlying t with  |  some (.int k) => some k  |  _ => none))) = true := by kernel_rfl
theorem cf29 : ((Rows.fnExactCrashLogRow.pinned == Rows.fnExactCrashLogRow.pinnedBy)) = true := by kernel_rfl
theorem cf30 : ((Rows.fnExactCrashLogRow.veiled == (Tryd.f3.params.toList ++ Rows.fnExactCrashLogSpec.plain.varTypes Tryd.prog ++ Tryd.f3.resultTypes.toList).any (Tryd.prog.veiledRec ·))) = true := by kernel_rfl
theorem cf31 : (Rows.fnExactCrashLogRow.veiledFits Tryd.prog Tryd.f3.params.toList (Tryd.f3.params.toList ++ Rows.fnExactCrashLogSpec.plain.varTypes Tryd.prog ++ Tryd.f3.resultTypes.toList)) = true := by kernel_rfl
end Go.Proofs.YtoigeobocefoiaaDoor.fnExactCrashLog
