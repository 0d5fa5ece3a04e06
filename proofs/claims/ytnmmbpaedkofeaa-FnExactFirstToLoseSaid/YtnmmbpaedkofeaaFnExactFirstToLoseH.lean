/- A part of the proof of FnExactFirstToLose: the statement itself: the program answers true for every input and leaves its argument as it was. No condition. -/
import Derived.Test.YtnmmbpaedkofeaaRows
import Derived.Test.YtnmmbpaedkofeaaFnExactFirstToLoseB
import Derived.Test.YtnmmbpaedkofeaaFnExactFirstToLoseE
import Derived.Test.YtnmmbpaedkofeaaFnExactFirstToLoseG
/- The row of the law FnExactFirstToLose: its pure law and its walk, joined. -/
namespace Go.Proofs.Ytnmmbpaedkofeaa.fnExactFirstToLose
open Go Go.Ga Go.Ga.Rp Go.Ga.Flat Go.Ga.Wf Go.ChangeShapes Go.WideShapes Go.ChangeAt Go.RowKit
open Go.ChangeMaps (open_string shut_string)
set_option linter.unusedVariables false
set_option maxHeartbeats 4000000
theorem opnT3 : Opn Try.prog 3 (Int) := opn_int Try.underlying3
theorem opnT140 : Opn Try.prog 140 (Int × Int × Int) := opn_arr3 Try.underlying140 (by kernel_rfl) (by kernel_rfl) opnT3
theorem opnT49 : Opn Try.prog 49 (List (Int × Int × Int)) := opn_slice Try.underlying49 (by kernel_rfl) (by decide) opnT140
theorem opnT38 : Opn Try.prog 38 (List Int) := opn_slice Try.underlying38 (by kernel_rfl) (by decide) opnT3
theorem opnT51 : Opn Try.prog 51 (Int × List (Int × Int × Int) × List Int) := opn_struct (N := 3) Try.underlying51 (by kernel_rfl) (opnFs_cons opnT3 rfl (by kernel_rfl) (opnFs_cons opnT49 rfl (by kernel_rfl) (opnFs_one opnT38 rfl (by kernel_rfl))))
theorem opnT53 : Opn Try.prog 53 (Int × List (Int × Int × Int) × List Int × List Int) := opn_struct (N := 4) Try.underlying53 (by kernel_rfl) (OpnFs.cv (opnFs_cons opnT51 rfl (by kernel_rfl) (opnFs_one opnT38 rfl (by kernel_rfl))) (Cv.assoc.trans (Cv.right (Cv.assoc))))
theorem opR53 {w : World} {cs : List Value} {t : Int × List (Int × Int × Int) × List Int × List Int} (h : rep w (fun _ => True) cs t) : ∃ v1 v2 v3 : Value, cs = [.int .i64 t.1, v1, v2, v3] ∧ Rd w v1 t.2.1 ∧ Rd w v2 t.2.2.1 ∧ Rd w v3 t.2.2.2 := by
  obtain ⟨_, _, rfl, h0, ⟨_, _, rfl, ⟨v1, rfl, h1⟩, ⟨_, _, rfl, ⟨v2, rfl, h2⟩, ⟨v3, rfl, h3⟩⟩⟩⟩ := h
  rw [Flat.rp h0]
  exact ⟨v1, v2, v3, rfl, h1, h2, h3⟩
theorem own : ownKnob Try.prog.godebug = none := by kernel_rfl
theorem laidOut : laidOutB Try.prog = true := by kernel_rfl
set_option maxRecDepth 100000 in
theorem lifted (os : Os) (started : os.Started) (H : Type) (enc : TypeId × Value → H) :
    ReturnsInHanded {} Try.checked os 14 .any (Rows.fnExactFirstToLoseSpec.pre6 enc Try.prog Try.f14 Rows.fnExactFirstToLoseRow.domain false) (Rows.fnExactFirstToLoseSpec.post enc Try.prog Try.f14 false true false false) := by
  refine returnsInHanded_of_change_sized (C := Try.checked) own started (by kernel_rfl) Try.func14
    (ChangeSpec.witness6 (enc := enc) (C := Try.checked) false ⟨#[], #[.agg #[.int .i64 0, .slice none 0 0, .slice none 0 0, .slice none 0 0]], []⟩ 8 (by kernel_rfl) (by kernel_rfl) (by kernel_rfl) (by kernel_rfl)) ?_
  intro W base args ds gs before hval0 hW hcnd _ _
  have hval : ∀ (j : Nat) t v, Try.f14.params[j]? = some t → args[j]? = some v → Value.okWide Try.prog W .any base t v := hval0
  have hW' := hW
  obtain ⟨p, q, hA0, hV, rfl, hfz, hnd⟩ := hW
  have hA : DataW.TrodAll enc Try.prog W 0 (fun _ => true) true Try.f14.params.toList args.toList ds p := hA0
  rw [Try.params14] at hA hval
  obtain ⟨u0, us0, d0, ds0, p0, q0, hargs, rfl, rfl, h0, z0⟩ := trodAll_cons hA
  obtain ⟨rfl, rfl, rfl⟩ := trodAll_nil z0
  obtain rfl : args = #[u0] := by cases args; simp_all
  obtain ⟨rfl, rfl⟩ := trodVars_none hV
  have lt0 : ∀ x ∈ p0, x.block < W.heap.size := by obtain ⟨m, hm⟩ := h0; exact DataW.trod_lt m _ _ _ hm
  obtain ⟨cs0, rfl, _⟩ := okWide_struct Try.underlying53 (hval 0 53 u0 rfl rfl)
  obtain ⟨fu0, hf0⟩ := id h0
  obtain ⟨x0, hx0, hw0⟩ := opnT53 enc W 0 _ true _ _ _ (fun _ => rfl) hf0
  obtain ⟨v0_1, v0_2, v0_3, hc0, r0_1, r0_2, r0_3⟩ := opR53 hx0
  obtain ⟨cs0⟩ := cs0
  simp only [Value.cells] at hc0
  subst hc0
  obtain ⟨k, hk⟩ := laws_FnExactFirstToLose.pure x0 hw0
  refine (laws_FnExactFirstToLose.ok hk W r0_1 r0_2 r0_3).mono fun e W' ⟨he, ext⟩ => ?_
  subst he
  have bel := Ext.below ext
  exact ⟨_, rfl, _, _, _, [], _, [], hW', trodAll_mk1 (shut_bool Try.underlying4 _), (trodAll_cons_mk (Below.trod laidOut (by kernel_rfl) (of_decide_eq_true (by kernel_rfl)) h0 bel lt0) trodAll_mk0), rfl, bel.frame _, fun h => by cases h⟩
theorem cf0 : (Rows.fnExactFirstToLoseRow.wf (OpenSpec.ofChange Rows.fnExactFirstToLoseSpec)) = true := by kernel_rfl
theorem cf1 : laidOutB Try.prog = true := laidOut
theorem cf2 : (mapsRowed Try.prog) = true := by kernel_rfl
theorem cf3 : (Try.f14.params.all (Try.prog.readableRec ·)) = true := by kernel_rfl
theorem cf4 : (namedTie Try.prog Rows.fnExactFirstToLoseRow.named Rows.fnExactFirstToLoseSpec.vars) = true := by kernel_rfl
theorem cf5 : ((Rows.fnExactFirstToLoseRow.stops == [])) = true := by kernel_rfl
theorem cf6 : ((Try.prog.stops == [])) = true := by kernel_rfl
theorem cf7 : ((Rows.fnExactFirstToLoseRow.knobs == [])) = true := by kernel_rfl
theorem cf8 : ((Try.prog.stopKnobs == [])) = true := by kernel_rfl
theorem cf9 : ((Rows.fnExactFirstToLoseRow.inPlace == Try.prog.inPlace 14)) = true := by kernel_rfl
theorem cf10 : ((Rows.fnExactFirstToLoseRow.unfollowed == Try.prog.unfollowed 14)) = true := by kernel_rfl
theorem cf11 : ((Rows.fnExactFirstToLoseRow.recurses == Try.prog.recurses 14)) = true := by kernel_rfl
theorem cf12 : ((Rows.fnExactFirstToLoseRow.named == Try.prog.varsNamed 14)) = true := by kernel_rfl
theorem cf13 : ((Rows.fnExactFirstToLoseRow.maps == (Try.f14.params.toList ++ Rows.fnExactFirstToLoseSpec.plain.varTypes Try.prog).any (Try.prog.mapsRec ·))) = true := by kernel_rfl
theorem cf14 : ((Rows.fnExactFirstToLoseRow.ifaces == (Try.f14.params.toList ++ Rows.fnExactFirstToLoseSpec.plain.varTypes Try.prog).any (Try.prog.ifacesRec ·))) = true := by kernel_rfl
theorem cf15 : ((Rows.fnExactFirstToLoseRow.mapsOut == Try.prog.mapsAmong Try.f14.resultTypes.toList)) = true := by kernel_rfl
theorem cf16 : ((Rows.fnExactFirstToLoseRow.loops == (Try.f14.params.toList ++ Rows.fnExactFirstToLoseSpec.plain.varTypes Try.prog).any (Try.prog.loopsFrom ·))) = true := by kernel_rfl
theorem cf17 : ((Rows.fnExactFirstToLoseRow.wideKeys == (Try.f14.params.toList ++ Rows.fnExactFirstToLoseSpec.plain.varTypes Try.prog ++ Try.f14.resultTypes.toList).any (Try.prog.wideKeysFrom ·))) = true := by kernel_rfl
theorem cf18 : (Rows.fnExactFirstToLoseSpec.vars.all (Try.prog.varReadable ·)) = true := by kernel_rfl
theorem cf19 : (Try.f14.resultTypes.all (fun t => Try.prog.readableRec t && decide (t < Try.prog.types.size))) = true := by kernel_rfl
theorem cf20 : ((Rows.fnExactFirstToLoseRow.ifacesOut == Try.f14.resultTypes.toList.any (Try.prog.ifacesRec ·))) = true := by kernel_rfl
theorem cf21 : ((Rows.fnExactFirstToLoseRow.loopsOut == Try.f14.resultTypes.toList.any (Try.prog.loopsFrom ·))) = true := by kernel_rfl
theorem cf22 : ((Rows.fnExactFirstToLoseRow.plainKeys == Try.prog.plainKeys)) = true := by kernel_rfl
theorem cf23 : (Rows.fnExactFirstToLoseRow.shortTexts.isNone) = true := by kernel_rfl
theorem cf24 : (Try.prog.stopsHeard) = true := by kernel_rfl
theorem cf28 : ((Rows.fnExactFirstToLoseRow.kinds == (if Rows.fnExactFirstToLoseRow.domain.isEmpty then [] else Try.f14.params.toList.map fun t => match Try.prog.underlying t with  |  some (.int k) => some k  |  _ => none))) = true := by kernel_rfl
theorem cf29 : ((Rows.fnExactFirstToLoseRow.pinned == Rows.fnExactFirstToLoseRow.pinnedBy)) = true := by kernel_rfl
theorem cf30 : ((Rows.fnExactFirstToLoseRow.veiled == (Try.f14.params.toList ++ Rows.fnExactFirstToLoseSpec.plain.varTypes Try.prog ++ Try.f14.resultTypes.toList).any (Try.prog.veiledRec ·))) = true := by kernel_rfl
theorem cf31 : (Rows.fnExactFirstToLoseRow.veiledFits Try.prog Try.f14.params.toList (Try.f14.params.toList ++ Rows.fnExactFirstToLoseSpec.plain.varTypes Try.prog ++ Try.f14.resultTypes.toList)) = true := by kernel_rfl
end Go.Proofs.Ytnmmbpaedkofeaa.fnExactFirstToLose
