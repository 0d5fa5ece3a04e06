/- A part of the proof of FnExactTurnDoor: the statement itself: the program answers true for every input and leaves its argument as it was. No condition. -/
import Derived.Test.YtoigeobocefoiaaRows
import Derived.Test.YtoigeobocefoiaaFnExactTurnDoorB
import Derived.Test.YtoigeobocefoiaaFnExactTurnDoorD
import Derived.Test.YtoigeobocefoiaaFnExactTurnDoorE
/- The row of the law FnExactTurnDoor: its pure law and its walk, joined. -/
namespace Go.Proofs.Ytoigeobocefoiaa.fnExactTurnDoor
open Go Go.Ga Go.Ga.Rp Go.Ga.Flat Go.Ga.Wf Go.ChangeShapes Go.WideShapes Go.ChangeAt Go.RowKit
open Go.ChangeMaps (open_string shut_string)
set_option linter.unusedVariables false
set_option maxHeartbeats 4000000
theorem opnT3 : Opn Try.prog 3 (Int) := opn_int Try.underlying3
theorem opnT61 : Opn Try.prog 61 (Int × Int × Int) := opn_arr3 Try.underlying61 (by kernel_rfl) (by kernel_rfl) opnT3
theorem opnT22 : Opn Try.prog 22 (List (Int × Int × Int)) := opn_slice Try.underlying22 (by kernel_rfl) (by decide) opnT61
theorem opnT23 : Opn Try.prog 23 (List Int) := opn_slice Try.underlying23 (by kernel_rfl) (by decide) opnT3
theorem opnT25 : Opn Try.prog 25 (Int × List (Int × Int × Int) × List Int) := opn_struct (N := 3) Try.underlying25 (by kernel_rfl) (opnFs_cons opnT3 rfl (by kernel_rfl) (opnFs_cons opnT22 rfl (by kernel_rfl) (opnFs_one opnT23 rfl (by kernel_rfl))))
theorem opnT27 : Opn Try.prog 27 (Int × List (Int × Int × Int) × List Int × List Int) := opn_struct (N := 4) Try.underlying27 (by kernel_rfl) (OpnFs.cv (opnFs_cons opnT25 rfl (by kernel_rfl) (opnFs_one opnT23 rfl (by kernel_rfl))) (Cv.assoc.trans (Cv.right (Cv.assoc))))
theorem opR27 {w : World} {cs : List Value} {t : Int × List (Int × Int × Int) × List Int × List Int} (h : rep w (fun _ => True) cs t) : ∃ v1 v2 v3 : Value, cs = [.int .i64 t.1, v1, v2, v3] ∧ Rd w v1 t.2.1 ∧ Rd w v2 t.2.2.1 ∧ Rd w v3 t.2.2.2 := by
  obtain ⟨_, _, rfl, h0, ⟨_, _, rfl, ⟨v1, rfl, h1⟩, ⟨_, _, rfl, ⟨v2, rfl, h2⟩, ⟨v3, rfl, h3⟩⟩⟩⟩ := h
  rw [Flat.rp h0]
  exact ⟨v1, v2, v3, rfl, h1, h2, h3⟩
theorem opR3 {w : World} {cs : List Value} {t : Int} (h : rep w (fun _ => True) cs t) : cs = [.int .i64 t] := by
  have h0 := h
  rw [Flat.rp h0]
  rfl
theorem own : ownKnob Try.prog.godebug = none := by kernel_rfl
theorem laidOut : laidOutB Try.prog = true := by kernel_rfl
set_option maxRecDepth 100000 in
theorem lifted (os : Os) (started : os.Started) (H : Type) (enc : TypeId × Value → H) :
    ReturnsInHanded {} Try.checked os 3 .any (Rows.fnExactTurnDoorSpec.pre6 enc Try.prog Try.f3 Rows.fnExactTurnDoorRow.domain false) (Rows.fnExactTurnDoorSpec.post enc Try.prog Try.f3 false true false false) := by
  refine returnsInHanded_of_change_sized (C := Try.checked) own started (by kernel_rfl) Try.func3
    (ChangeSpec.witness6 (enc := enc) (C := Try.checked) false ⟨#[], #[.agg #[.int .i64 0, .slice none 0 0, .slice none 0 0, .slice none 0 0], .int .i64 0], []⟩ 8 (by kernel_rfl) (by kernel_rfl) (by kernel_rfl) (by kernel_rfl)) ?_
  intro W base args ds gs before hval0 hW hcnd _ _
  have hval : ∀ (j : Nat) t v, Try.f3.params[j]? = some t → args[j]? = some v → Value.okWide Try.prog W .any base t v := hval0
  have hW' := hW
  obtain ⟨p, q, hA0, hV, rfl, hfz, hnd⟩ := hW
  have hA : DataW.TrodAll enc Try.prog W 0 (fun _ => true) true Try.f3.params.toList args.toList ds p := hA0
  rw [Try.params3] at hA hval
  obtain ⟨u0, us0, d0, ds0, p0, q0, hargs, rfl, rfl, h0, z0⟩ := trodAll_cons hA
  obtain ⟨u1, us1, d1, ds1, p1, q1, rfl, rfl, rfl, h1, z1⟩ := trodAll_cons z0
  obtain ⟨rfl, rfl, rfl⟩ := trodAll_nil z1
  obtain rfl : args = #[u0, u1] := by cases args; simp_all
  obtain ⟨rfl, rfl⟩ := trodVars_none hV
  have lt0 : ∀ x ∈ p0, x.block < W.heap.size := by obtain ⟨m, hm⟩ := h0; exact DataW.trod_lt m _ _ _ hm
  obtain ⟨cs0, rfl, _⟩ := okWide_struct Try.underlying27 (hval 0 27 u0 rfl rfl)
  obtain ⟨fu0, hf0⟩ := id h0
  obtain ⟨x0, hx0, hw0⟩ := opnT27 enc W 0 _ true _ _ _ (fun _ => rfl) hf0
  obtain ⟨v0_1, v0_2, v0_3, hc0, r0_1, r0_2, r0_3⟩ := opR27 hx0
  obtain ⟨cs0⟩ := cs0
  simp only [Value.cells] at hc0
  subst hc0
  have lt1 : ∀ x ∈ p1, x.block < W.heap.size := by obtain ⟨m, hm⟩ := h1; exact DataW.trod_lt m _ _ _ hm
  obtain ⟨a1, rfl⟩ := okWide_int Try.underlying3 (hval 1 3 u1 rfl rfl)
  obtain ⟨fu1, hf1⟩ := id h1
  obtain ⟨x1, hx1, hw1⟩ := opnT3 enc W 0 _ true _ _ _ (fun _ => rfl) hf1
  have hc1 := opR3 hx1
  simp only [Value.cells, List.cons.injEq, and_true] at hc1
  injection hc1 with _ hc1
  subst hc1
  obtain ⟨k, hk⟩ := laws_FnExactTurnDoor.pure x0 a1 hw0 hw1
  refine (laws_FnExactTurnDoor.ok hk W r0_1 r0_2 r0_3).mono fun e W' ⟨he, ext⟩ => ?_
  subst he
  have bel := Ext.below ext
  exact ⟨_, rfl, _, _, _, [], _, [], hW', trodAll_mk1 (shut_bool Try.underlying4 _), (trodAll_cons_mk (Below.trod laidOut (by kernel_rfl) (of_decide_eq_true (by kernel_rfl)) h0 bel lt0) (trodAll_cons_mk (Below.trod laidOut (by kernel_rfl) (of_decide_eq_true (by kernel_rfl)) h1 bel lt1) trodAll_mk0)), rfl, bel.frame _, fun h => by cases h⟩
theorem cf0 : (Rows.fnExactTurnDoorRow.wf (OpenSpec.ofChange Rows.fnExactTurnDoorSpec)) = true := by kernel_rfl
theorem cf1 : laidOutB Try.prog = true := laidOut
theorem cf2 : (mapsRowed Try.prog) = true := by kernel_rfl
theorem cf3 : (Try.f3.params.all (Try.prog.readableRec ·)) = true := by kernel_rfl
theorem cf4 : (namedTie Try.prog Rows.fnExactTurnDoorRow.named Rows.fnExactTurnDoorSpec.vars) = true := by kernel_rfl
theorem cf5 : ((Rows.fnExactTurnDoorRow.stops == [])) = true := by kernel_rfl
theorem cf6 : ((Try.prog.stops == [])) = true := by kernel_rfl
theorem cf7 : ((Rows.fnExactTurnDoorRow.knobs == [])) = true := by kernel_rfl
theorem cf8 : ((Try.prog.stopKnobs == [])) = true := by kernel_rfl
theorem cf9 : ((Rows.fnExactTurnDoorRow.inPlace == Try.prog.inPlace 3)) = true := by kernel_rfl
theorem cf10 : ((Rows.fnExactTurnDoorRow.unfollowed == Try.prog.unfollowed 3)) = true := by kernel_rfl
theorem cf11 : ((Rows.fnExactTurnDoorRow.recurses == Try.prog.recurses 3)) = true := by kernel_rfl
theorem cf12 : ((Rows.fnExactTurnDoorRow.named == Try.prog.varsNamed 3)) = true := by kernel_rfl
theorem cf13 : ((Rows.fnExactTurnDoorRow.maps == (Try.f3.params.toList ++ Rows.fnExactTurnDoorSpec.plain.varTypes Try.prog).any (Try.prog.mapsRec ·))) = true := by kernel_rfl
theorem cf14 : ((Rows.fnExactTurnDoorRow.ifaces == (Try.f3.params.toList ++ Rows.fnExactTurnDoorSpec.plain.varTypes Try.prog).any (Try.prog.ifacesRec ·))) = true := by kernel_rfl
theorem cf15 : ((Rows.fnExactTurnDoorRow.mapsOut == Try.prog.mapsAmong Try.f3.resultTypes.toList)) = true := by kernel_rfl
theorem cf16 : ((Rows.fnExactTurnDoorRow.loops == (Try.f3.params.toList ++ Rows.fnExactTurnDoorSpec.plain.varTypes Try.prog).any (Try.prog.loopsFrom ·))) = true := by kernel_rfl
theorem cf17 : ((Rows.fnExactTurnDoorRow.wideKeys == (Try.f3.params.toList ++ Rows.fnExactTurnDoorSpec.plain.varTypes Try.prog ++ Try.f3.resultTypes.toList).any (Try.prog.wideKeysFrom ·))) = true := by kernel_rfl
theorem cf18 : (Rows.fnExactTurnDoorSpec.vars.all (Try.prog.varReadable ·)) = true := by kernel_rfl
theorem cf19 : (Try.f3.resultTypes.all (fun t => Try.prog.readableRec t && decide (t < Try.prog.types.size))) = true := by kernel_rfl
theorem cf20 : ((Rows.fnExactTurnDoorRow.ifacesOut == Try.f3.resultTypes.toList.any (Try.prog.ifacesRec ·))) = true := by kernel_rfl
theorem cf21 : ((Rows.fnExactTurnDoorRow.loopsOut == Try.f3.resultTypes.toList.any (Try.prog.loopsFrom ·))) = true := by kernel_rfl
theorem cf22 : ((Rows.fnExactTurnDoorRow.plainKeys == Try.prog.plainKeys)) = true := by kernel_rfl
theorem cf23 : (Rows.fnExactTurnDoorRow.shortTexts.isNone) = true := by kernel_rfl
theorem cf24 : (Try.prog.stopsHeard) = true := by kernel_rfl
theorem cf28 : ((Rows.fnExactTurnDoorRow.kinds == (if Rows.fnExactTurnDoorRow.domain.isEmpty then [] else Try.f3.params.toList.map fun t => match Try.prog.underlying t with  |  some (.int k) => some k  |  _ => none))) = true := by kernel_rfl
theorem cf29 : ((Rows.fnExactTurnDoorRow.pinned == Rows.fnExactTurnDoorRow.pinnedBy)) = true := by kernel_rfl
theorem cf30 : ((Rows.fnExactTurnDoorRow.veiled == (Try.f3.params.toList ++ Rows.fnExactTurnDoorSpec.plain.varTypes Try.prog ++ Try.f3.resultTypes.toList).any (Try.prog.veiledRec ·))) = true := by kernel_rfl
theorem cf31 : (Rows.fnExactTurnDoorRow.veiledFits Try.prog Try.f3.params.toList (Try.f3.params.toList ++ Rows.fnExactTurnDoorSpec.plain.varTypes Try.prog ++ Try.f3.resultTypes.toList)) = true := by kernel_rfl
end Go.Proofs.Ytoigeobocefoiaa.fnExactTurnDoor
