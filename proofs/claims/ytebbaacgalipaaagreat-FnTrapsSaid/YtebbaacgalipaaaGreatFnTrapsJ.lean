/- A part of the proof of FnTraps: the statement itself: the program answers true for every input and leaves its argument as it was. No condition. -/
import Derived.Test.YtebbaacgalipaaaGreatRows
import Derived.Test.YtebbaacgalipaaaGreatFnTrapsB
import Derived.Test.YtebbaacgalipaaaGreatFnTrapsG
import Derived.Test.YtebbaacgalipaaaGreatFnTrapsI
/- The row of the law FnTraps: its pure law and its walk, joined. -/
namespace Go.Proofs.YtebbaacgalipaaaGreat.fnTraps
open Go Go.Ga Go.Ga.Rp Go.Ga.Flat Go.Ga.Wf Go.ChangeShapes Go.WideShapes Go.ChangeAt Go.RowKit
open Go.ChangeMaps (open_string shut_string)
set_option linter.unusedVariables false
set_option maxHeartbeats 4000000
theorem opnT5 : Opn Tryz.prog 5 (By) := opn_by Tryz.underlying5
theorem opnT22 : Opn Tryz.prog 22 (List By) := opn_slice Tryz.underlying22 (by kernel_rfl) (by decide) opnT5
theorem opR22 {w : World} {cs : List Value} {t : List By} (h : rep w (fun _ => True) cs t) : ∃ v0 : Value, cs = [v0] ∧ Rd w v0 t := by
  obtain ⟨v0, rfl, h0⟩ := h
  exact ⟨v0, rfl, h0⟩
theorem own : ownKnob Tryz.prog.godebug = none := by kernel_rfl
theorem laidOut : laidOutB Tryz.prog = true := by kernel_rfl
set_option maxRecDepth 100000 in
theorem lifted (os : Os) (started : os.Started) (H : Type) (enc : TypeId × Value → H) :
    ReturnsInHanded {} Tryz.checked os 5 .any (Rows.fnTrapsSpec.pre6 enc Tryz.prog Tryz.f5 Rows.fnTrapsRow.domain false) (Rows.fnTrapsSpec.post enc Tryz.prog Tryz.f5 false true false false) := by
  refine returnsInHanded_of_change_sized (C := Tryz.checked) own started (by kernel_rfl) Tryz.func5
    (ChangeSpec.witness6 (enc := enc) (C := Tryz.checked) false ⟨#[], #[.slice none 0 0], []⟩ 8 (by kernel_rfl) (by kernel_rfl) (by kernel_rfl) (by kernel_rfl)) ?_
  intro W base args ds gs before hval0 hW hcnd _ _
  have hval : ∀ (j : Nat) t v, Tryz.f5.params[j]? = some t → args[j]? = some v → Value.okWide Tryz.prog W .any base t v := hval0
  have hW' := hW
  obtain ⟨p, q, hA0, hV, rfl, hfz, hnd⟩ := hW
  have hA : DataW.TrodAll enc Tryz.prog W 0 (fun _ => true) true Tryz.f5.params.toList args.toList ds p := hA0
  rw [Tryz.params5] at hA hval
  obtain ⟨u0, us0, d0, ds0, p0, q0, hargs, rfl, rfl, h0, z0⟩ := trodAll_cons hA
  obtain ⟨rfl, rfl, rfl⟩ := trodAll_nil z0
  obtain rfl : args = #[u0] := by cases args; simp_all
  obtain ⟨rfl, rfl⟩ := trodVars_none hV
  have lt0 : ∀ x ∈ p0, x.block < W.heap.size := by obtain ⟨m, hm⟩ := h0; exact DataW.trod_lt m _ _ _ hm
  obtain ⟨sa0, sl0, sc0, rfl⟩ := okWide_slice Tryz.underlying22 (hval 0 22 u0 rfl rfl)
  obtain ⟨fu0, hf0⟩ := id h0
  obtain ⟨x0, hx0, hw0⟩ := opnT22 enc W 0 _ true _ _ _ (fun _ => rfl) hf0
  obtain ⟨v0_0, hc0, r0_0⟩ := opR22 hx0
  simp only [Value.cells, List.cons.injEq, and_true] at hc0
  subst hc0
  obtain ⟨k, hk⟩ := laws_FnTraps.pure x0 hw0
  refine (laws_FnTraps.ok hk W r0_0).mono fun e W' ⟨he, ext⟩ => ?_
  subst he
  have bel := Ext.below ext
  exact ⟨_, rfl, _, _, _, [], _, [], hW', trodAll_mk1 (shut_bool Tryz.underlying4 _), (trodAll_cons_mk (Below.trod laidOut (by kernel_rfl) (of_decide_eq_true (by kernel_rfl)) h0 bel lt0) trodAll_mk0), rfl, bel.frame _, fun h => by cases h⟩
theorem cf0 : (Rows.fnTrapsRow.wf (OpenSpec.ofChange Rows.fnTrapsSpec)) = true := by kernel_rfl
theorem cf1 : laidOutB Tryz.prog = true := laidOut
theorem cf2 : (mapsRowed Tryz.prog) = true := by kernel_rfl
theorem cf3 : (Tryz.f5.params.all (Tryz.prog.readableRec ·)) = true := by kernel_rfl
theorem cf4 : (namedTie Tryz.prog Rows.fnTrapsRow.named Rows.fnTrapsSpec.vars) = true := by kernel_rfl
theorem cf5 : ((Rows.fnTrapsRow.stops == [])) = true := by kernel_rfl
theorem cf6 : ((Tryz.prog.stops == [])) = true := by kernel_rfl
theorem cf7 : ((Rows.fnTrapsRow.knobs == [])) = true := by kernel_rfl
theorem cf8 : ((Tryz.prog.stopKnobs == [])) = true := by kernel_rfl
theorem cf9 : ((Rows.fnTrapsRow.inPlace == Tryz.prog.inPlace 5)) = true := by kernel_rfl
theorem cf10 : ((Rows.fnTrapsRow.unfollowed == Tryz.prog.unfollowed 5)) = true := by kernel_rfl
theorem cf11 : ((Rows.fnTrapsRow.recurses == Tryz.prog.recurses 5)) = true := by kernel_rfl
theorem cf12 : ((Rows.fnTrapsRow.named == Tryz.prog.varsNamed 5)) = true := by kernel_rfl
theorem cf13 : ((Rows.fnTrapsRow.maps == (Tryz.f5.params.toList ++ Rows.fnTrapsSpec.plain.varTypes Tryz.prog).any (Tryz.prog.mapsRec ·))) = true := by kernel_rfl
theorem cf14 : ((Rows.fnTrapsRow.ifaces == (Tryz.f5.params.toList ++ Rows.fnTrapsSpec.plain.varTypes Tryz.prog).any (Tryz.prog.ifacesRec ·))) = true := by kernel_rfl
theorem cf15 : ((Rows.fnTrapsRow.mapsOut == Tryz.prog.mapsAmong Tryz.f5.resultTypes.toList)) = true := by kernel_rfl
theorem cf16 : ((Rows.fnTrapsRow.loops == (Tryz.f5.params.toList ++ Rows.fnTrapsSpec.plain.varTypes Tryz.prog).any (Tryz.prog.loopsFrom ·))) = true := by kernel_rfl
theorem cf17 : ((Rows.fnTrapsRow.wideKeys == (Tryz.f5.params.toList ++ Rows.fnTrapsSpec.plain.varTypes Tryz.prog ++ Tryz.f5.resultTypes.toList).any (Tryz.prog.wideKeysFrom ·))) = true := by kernel_rfl
theorem cf18 : (Rows.fnTrapsSpec.vars.all (Tryz.prog.varReadable ·)) = true := by kernel_rfl
theorem cf19 : (Tryz.f5.resultTypes.all (fun t => Tryz.prog.readableRec t && decide (t < Tryz.prog.types.size))) = true := by kernel_rfl
theorem cf20 : ((Rows.fnTrapsRow.ifacesOut == Tryz.f5.resultTypes.toList.any (Tryz.prog.ifacesRec ·))) = true := by kernel_rfl
theorem cf21 : ((Rows.fnTrapsRow.loopsOut == Tryz.f5.resultTypes.toList.any (Tryz.prog.loopsFrom ·))) = true := by kernel_rfl
theorem cf22 : ((Rows.fnTrapsRow.plainKeys == Tryz.prog.plainKeys)) = true := by kernel_rfl
theorem cf23 : (Rows.fnTrapsRow.shortTexts.isNone) = true := by kernel_rfl
theorem cf24 : (Tryz.prog.stopsHeard) = true := by kernel_rfl
theorem cf28 : ((Rows.fnTrapsRow.kinds == (if Rows.fnTrapsRow.domain.isEmpty then [] else Tryz.f5.params.toList.map fun t => match Tryz.prog.underlying t with  |  some (.int k) => some k  |  _ => none))) = true := by kernel_rfl
theorem cf29 : ((Rows.fnTrapsRow.pinned == Rows.fnTrapsRow.pinnedBy)) = true := by kernel_rfl
theorem cf30 : ((Rows.fnTrapsRow.veiled == (Tryz.f5.params.toList ++ Rows.fnTrapsSpec.plain.varTypes Tryz.prog ++ Tryz.f5.resultTypes.toList).any (Tryz.prog.veiledRec ·))) = true := by kernel_rfl
theorem cf31 : (Rows.fnTrapsRow.veiledFits Tryz.prog Tryz.f5.params.toList (Tryz.f5.params.toList ++ Rows.fnTrapsSpec.plain.varTypes Tryz.prog ++ Tryz.f5.resultTypes.toList)) = true := by kernel_rfl
end Go.Proofs.YtebbaacgalipaaaGreat.fnTraps
