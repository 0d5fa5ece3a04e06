/- A part of the proof of FnWorlds: the statement itself: the program answers true for every input and leaves its argument as it was. No condition. -/
import Derived.Test.YtebbaacgalipaaaRows
import Derived.Test.YtebbaacgalipaaaFnWorldsB
import Derived.Test.YtebbaacgalipaaaFnWorldsH
import Derived.Test.YtebbaacgalipaaaFnWorldsJ
/- The row of the law FnWorlds: its pure law and its walk, joined. -/
namespace Go.Proofs.Ytebbaacgalipaaa.fnWorlds
open Go Go.Ga Go.Ga.Rp Go.Ga.Flat Go.Ga.Wf Go.ChangeShapes Go.WideShapes Go.ChangeAt Go.RowKit
open Go.ChangeMaps (open_string shut_string)
set_option linter.unusedVariables false
set_option maxHeartbeats 4000000
theorem opnT5 : Opn Try.prog 5 (By) := opn_by Try.underlying5
theorem opnT22 : Opn Try.prog 22 (List By) := opn_slice Try.underlying22 (by kernel_rfl) (by decide) opnT5
theorem opR22 {w : World} {cs : List Value} {t : List By} (h : rep w (fun _ => True) cs t) : ∃ v0 : Value, cs = [v0] ∧ Rd w v0 t := by
  obtain ⟨v0, rfl, h0⟩ := h
  exact ⟨v0, rfl, h0⟩
theorem own : ownKnob Try.prog.godebug = none := by kernel_rfl
theorem laidOut : laidOutB Try.prog = true := by kernel_rfl
set_option maxRecDepth 100000 in
theorem lifted (os : Os) (started : os.Started) (H : Type) (enc : TypeId × Value → H) :
    ReturnsInHanded {} Try.checked os 7 .any (Rows.fnWorldsSpec.pre6 enc Try.prog Try.f7 Rows.fnWorldsRow.domain false) (Rows.fnWorldsSpec.post enc Try.prog Try.f7 false true false false) := by
  refine returnsInHanded_of_change_sized (C := Try.checked) own started (by kernel_rfl) Try.func7
    (ChangeSpec.witness6 (enc := enc) (C := Try.checked) false ⟨#[], #[.slice none 0 0], []⟩ 8 (by kernel_rfl) (by kernel_rfl) (by kernel_rfl) (by kernel_rfl)) ?_
  intro W base args ds gs before hval0 hW hcnd _ _
  have hval : ∀ (j : Nat) t v, Try.f7.params[j]? = some t → args[j]? = some v → Value.okWide Try.prog W .any base t v := hval0
  have hW' := hW
  obtain ⟨p, q, hA0, hV, rfl, hfz, hnd⟩ := hW
  have hA : DataW.TrodAll enc Try.prog W 0 (fun _ => true) true Try.f7.params.toList args.toList ds p := hA0
  rw [Try.params7] at hA hval
  obtain ⟨u0, us0, d0, ds0, p0, q0, hargs, rfl, rfl, h0, z0⟩ := trodAll_cons hA
  obtain ⟨rfl, rfl, rfl⟩ := trodAll_nil z0
  obtain rfl : args = #[u0] := by cases args; simp_all
  obtain ⟨rfl, rfl⟩ := trodVars_none hV
  have lt0 : ∀ x ∈ p0, x.block < W.heap.size := by obtain ⟨m, hm⟩ := h0; exact DataW.trod_lt m _ _ _ hm
  obtain ⟨sa0, sl0, sc0, rfl⟩ := okWide_slice Try.underlying22 (hval 0 22 u0 rfl rfl)
  obtain ⟨fu0, hf0⟩ := id h0
  obtain ⟨x0, hx0, hw0⟩ := opnT22 enc W 0 _ true _ _ _ (fun _ => rfl) hf0
  obtain ⟨v0_0, hc0, r0_0⟩ := opR22 hx0
  simp only [Value.cells, List.cons.injEq, and_true] at hc0
  subst hc0
  obtain ⟨k, hk⟩ := laws_FnWorlds.pure x0 hw0
  refine (laws_FnWorlds.ok hk W r0_0).mono fun e W' ⟨he, ext⟩ => ?_
  subst he
  have bel := Ext.below ext
  exact ⟨_, rfl, _, _, _, [], _, [], hW', trodAll_mk1 (shut_bool Try.underlying4 _), (trodAll_cons_mk (Below.trod laidOut (by kernel_rfl) (of_decide_eq_true (by kernel_rfl)) h0 bel lt0) trodAll_mk0), rfl, bel.frame _, fun h => by cases h⟩
theorem cf0 : (Rows.fnWorldsRow.wf (OpenSpec.ofChange Rows.fnWorldsSpec)) = true := by kernel_rfl
theorem cf1 : laidOutB Try.prog = true := laidOut
theorem cf2 : (mapsRowed Try.prog) = true := by kernel_rfl
theorem cf3 : (Try.f7.params.all (Try.prog.readableRec ·)) = true := by kernel_rfl
theorem cf4 : (namedTie Try.prog Rows.fnWorldsRow.named Rows.fnWorldsSpec.vars) = true := by kernel_rfl
theorem cf5 : ((Rows.fnWorldsRow.stops == [])) = true := by kernel_rfl
theorem cf6 : ((Try.prog.stops == [])) = true := by kernel_rfl
theorem cf7 : ((Rows.fnWorldsRow.knobs == [])) = true := by kernel_rfl
theorem cf8 : ((Try.prog.stopKnobs == [])) = true := by kernel_rfl
theorem cf9 : ((Rows.fnWorldsRow.inPlace == Try.prog.inPlace 7)) = true := by kernel_rfl
theorem cf10 : ((Rows.fnWorldsRow.unfollowed == Try.prog.unfollowed 7)) = true := by kernel_rfl
theorem cf11 : ((Rows.fnWorldsRow.recurses == Try.prog.recurses 7)) = true := by kernel_rfl
theorem cf12 : ((Rows.fnWorldsRow.named == Try.prog.varsNamed 7)) = true := by kernel_rfl
theorem cf13 : ((Rows.fnWorldsRow.maps == (Try.f7.params.toList ++ Rows.fnWorldsSpec.plain.varTypes Try.prog).any (Try.prog.mapsRec ·))) = true := by kernel_rfl
theorem cf14 : ((Rows.fnWorldsRow.ifaces == (Try.f7.params.toList ++ Rows.fnWorldsSpec.plain.varTypes Try.prog).any (Try.prog.ifacesRec ·))) = true := by kernel_rfl
theorem cf15 : ((Rows.fnWorldsRow.mapsOut == Try.prog.mapsAmong Try.f7.resultTypes.toList)) = true := by kernel_rfl
theorem cf16 : ((Rows.fnWorldsRow.loops == (Try.f7.params.toList ++ Rows.fnWorldsSpec.plain.varTypes Try.prog).any (Try.prog.loopsFrom ·))) = true := by kernel_rfl
theorem cf17 : ((Rows.fnWorldsRow.wideKeys == (Try.f7.params.toList ++ Rows.fnWorldsSpec.plain.varTypes Try.prog ++ Try.f7.resultTypes.toList).any (Try.prog.wideKeysFrom ·))) = true := by kernel_rfl
theorem cf18 : (Rows.fnWorldsSpec.vars.all (Try.prog.varReadable ·)) = true := by kernel_rfl
theorem cf19 : (Try.f7.resultTypes.all (fun t => Try.prog.readableRec t && decide (t < Try.prog.types.size))) = true := by kernel_rfl
theorem cf20 : ((Rows.fnWorldsRow.ifacesOut == Try.f7.resultTypes.toList.any (Try.prog.ifacesRec ·))) = true := by kernel_rfl
theorem cf21 : ((Rows.fnWorldsRow.loopsOut == Try.f7.resultTypes.toList.any (Try.prog.loopsFrom ·))) = true := by kernel_rfl
theorem cf22 : ((Rows.fnWorldsRow.plainKeys == Try.prog.plainKeys)) = true := by kernel_rfl
theorem cf23 : (Rows.fnWorldsRow.shortTexts.isNone) = true := by kernel_rfl
theorem cf24 : (Try.prog.stopsHeard) = true := by kernel_rfl
theorem cf28 : ((Rows.fnWorldsRow.kinds == (if Rows.fnWorldsRow.domain.isEmpty then [] else Try.f7.params.toList.map fun t => match Try.prog.underlying t with  |  some (.int k) => some k  |  _ => none))) = true := by kernel_rfl
theorem cf29 : ((Rows.fnWorldsRow.pinned == Rows.fnWorldsRow.pinnedBy)) = true := by kernel_rfl
theorem cf30 : ((Rows.fnWorldsRow.veiled == (Try.f7.params.toList ++ Rows.fnWorldsSpec.plain.varTypes Try.prog ++ Try.f7.resultTypes.toList).any (Try.prog.veiledRec ·))) = true := by kernel_rfl
theorem cf31 : (Rows.fnWorldsRow.veiledFits Try.prog Try.f7.params.toList (Try.f7.params.toList ++ Rows.fnWorldsSpec.plain.varTypes Try.prog ++ Try.f7.resultTypes.toList)) = true := by kernel_rfl
end Go.Proofs.Ytebbaacgalipaaa.fnWorlds
