/- A part of the proof of FnExactDoDeed: the statement itself: the program answers true for every input and leaves its argument as it was. No condition. -/
import Derived.Test.YtijhomjbcpaknaaRows
import Derived.Test.YtijhomjbcpaknaaFnExactDoDeedB
import Derived.Test.YtijhomjbcpaknaaFnExactDoDeedG
import Derived.Test.YtijhomjbcpaknaaFnExactDoDeedH
/- The row of the law FnExactDoDeed: its pure law and its walk, joined. -/
namespace Go.Proofs.Ytijhomjbcpaknaa.fnExactDoDeed
open Go Go.Ga Go.Ga.Rp Go.Ga.Flat Go.Ga.Wf Go.ChangeShapes Go.WideShapes Go.ChangeAt Go.RowKit
open Go.ChangeMaps (open_string shut_string)
set_option linter.unusedVariables false
set_option maxHeartbeats 4000000
theorem opnT3 : Opn Try.prog 3 (Int) := opn_int Try.underlying3
theorem opnT116 : Opn Try.prog 116 (Int × Int × Int) := opn_arr3 Try.underlying116 (by kernel_rfl) (by kernel_rfl) opnT3
theorem opnT22 : Opn Try.prog 22 (List (Int × Int × Int)) := opn_slice Try.underlying22 (by kernel_rfl) (by decide) opnT116
theorem opnT23 : Opn Try.prog 23 (List Int) := opn_slice Try.underlying23 (by kernel_rfl) (by decide) opnT3
theorem opnT25 : Opn Try.prog 25 (Int × List (Int × Int × Int) × List Int) := opn_struct (N := 3) Try.underlying25 (by kernel_rfl) (opnFs_cons opnT3 rfl (by kernel_rfl) (opnFs_cons opnT22 rfl (by kernel_rfl) (opnFs_one opnT23 rfl (by kernel_rfl))))
theorem opnT62 : Opn Try.prog 62 (Int × List (Int × Int × Int) × List Int × List Int × Int) := opn_struct (N := 5) Try.underlying62 (by kernel_rfl) (OpnFs.cv (opnFs_cons opnT25 rfl (by kernel_rfl) (opnFs_cons opnT23 rfl (by kernel_rfl) (opnFs_one opnT3 rfl (by kernel_rfl)))) (Cv.assoc.trans (Cv.right (Cv.assoc))))
theorem opR62 {w : World} {cs : List Value} {t : Int × List (Int × Int × Int) × List Int × List Int × Int} (h : rep w (fun _ => True) cs t) : ∃ v1 v2 v3 : Value, cs = [.int .i64 t.1, v1, v2, v3, .int .i64 t.2.2.2.2] ∧ Rd w v1 t.2.1 ∧ Rd w v2 t.2.2.1 ∧ Rd w v3 t.2.2.2.1 := by
  obtain ⟨_, _, rfl, h0, ⟨_, _, rfl, ⟨v1, rfl, h1⟩, ⟨_, _, rfl, ⟨v2, rfl, h2⟩, ⟨_, _, rfl, ⟨v3, rfl, h3⟩, h4⟩⟩⟩⟩ := h
  rw [Flat.rp h0]
  rw [Flat.rp h4]
  exact ⟨v1, v2, v3, rfl, h1, h2, h3⟩
theorem opnT64 : Opn Try.prog 64 (Int × Int × Int × Int) := opn_struct (N := 4) Try.underlying64 (by kernel_rfl) (opnFs_cons opnT3 rfl (by kernel_rfl) (opnFs_cons opnT3 rfl (by kernel_rfl) (opnFs_cons opnT3 rfl (by kernel_rfl) (opnFs_one opnT3 rfl (by kernel_rfl)))))
theorem opR64 {w : World} {cs : List Value} {t : Int × Int × Int × Int} (h : rep w (fun _ => True) cs t) : cs = [.int .i64 t.1, .int .i64 t.2.1, .int .i64 t.2.2.1, .int .i64 t.2.2.2] := by
  obtain ⟨_, _, rfl, h0, ⟨_, _, rfl, h1, ⟨_, _, rfl, h2, h3⟩⟩⟩ := h
  rw [Flat.rp h0]
  rw [Flat.rp h1]
  rw [Flat.rp h2]
  rw [Flat.rp h3]
  rfl
theorem own : ownKnob Try.prog.godebug = none := by kernel_rfl
theorem laidOut : laidOutB Try.prog = true := by kernel_rfl
set_option maxRecDepth 100000 in
theorem lifted (os : Os) (started : os.Started) (H : Type) (enc : TypeId × Value → H) :
    ReturnsInHanded {} Try.checked os 11 .any (Rows.fnExactDoDeedSpec.pre6 enc Try.prog Try.f11 Rows.fnExactDoDeedRow.domain false) (Rows.fnExactDoDeedSpec.post enc Try.prog Try.f11 false true false false) := by
  refine returnsInHanded_of_change_sized (C := Try.checked) own started (by kernel_rfl) Try.func11
    (ChangeSpec.witness6 (enc := enc) (C := Try.checked) false ⟨#[], #[.agg #[.int .i64 0, .slice none 0 0, .slice none 0 0, .slice none 0 0, .int .i64 0], .agg #[.int .i64 0, .int .i64 0, .int .i64 0, .int .i64 0]], []⟩ 8 (by kernel_rfl) (by kernel_rfl) (by kernel_rfl) (by kernel_rfl)) ?_
  intro W base args ds gs before hval0 hW hcnd _ _
  have hval : ∀ (j : Nat) t v, Try.f11.params[j]? = some t → args[j]? = some v → Value.okWide Try.prog W .any base t v := hval0
  have hW' := hW
  obtain ⟨p, q, hA0, hV, rfl, hfz, hnd⟩ := hW
  have hA : DataW.TrodAll enc Try.prog W 0 (fun _ => true) true Try.f11.params.toList args.toList ds p := hA0
  rw [Try.params11] at hA hval
  obtain ⟨u0, us0, d0, ds0, p0, q0, hargs, rfl, rfl, h0, z0⟩ := trodAll_cons hA
  obtain ⟨u1, us1, d1, ds1, p1, q1, rfl, rfl, rfl, h1, z1⟩ := trodAll_cons z0
  obtain ⟨rfl, rfl, rfl⟩ := trodAll_nil z1
  obtain rfl : args = #[u0, u1] := by cases args; simp_all
  obtain ⟨rfl, rfl⟩ := trodVars_none hV
  have lt0 : ∀ x ∈ p0, x.block < W.heap.size := by obtain ⟨m, hm⟩ := h0; exact DataW.trod_lt m _ _ _ hm
  obtain ⟨cs0, rfl, _⟩ := okWide_struct Try.underlying62 (hval 0 62 u0 rfl rfl)
  obtain ⟨fu0, hf0⟩ := id h0
  obtain ⟨x0, hx0, hw0⟩ := opnT62 enc W 0 _ true _ _ _ (fun _ => rfl) hf0
  obtain ⟨v0_1, v0_2, v0_3, hc0, r0_1, r0_2, r0_3⟩ := opR62 hx0
  obtain ⟨cs0⟩ := cs0
  simp only [Value.cells] at hc0
  subst hc0
  have lt1 : ∀ x ∈ p1, x.block < W.heap.size := by obtain ⟨m, hm⟩ := h1; exact DataW.trod_lt m _ _ _ hm
  obtain ⟨cs1, rfl, _⟩ := okWide_struct Try.underlying64 (hval 1 64 u1 rfl rfl)
  obtain ⟨fu1, hf1⟩ := id h1
  obtain ⟨x1, hx1, hw1⟩ := opnT64 enc W 0 _ true _ _ _ (fun _ => rfl) hf1
  have hc1 := opR64 hx1
  obtain ⟨cs1⟩ := cs1
  simp only [Value.cells] at hc1
  subst hc1
  obtain ⟨k, hk⟩ := laws_FnExactDoDeed.pure x0 x1 hw0 hw1
  refine (laws_FnExactDoDeed.ok hk W r0_1 r0_2 r0_3).mono fun e W' ⟨he, ext⟩ => ?_
  subst he
  have bel := Ext.below ext
  exact ⟨_, rfl, _, _, _, [], _, [], hW', trodAll_mk1 (shut_bool Try.underlying4 _), (trodAll_cons_mk (Below.trod laidOut (by kernel_rfl) (of_decide_eq_true (by kernel_rfl)) h0 bel lt0) (trodAll_cons_mk (Below.trod laidOut (by kernel_rfl) (of_decide_eq_true (by kernel_rfl)) h1 bel lt1) trodAll_mk0)), rfl, bel.frame _, fun h => by cases h⟩
theorem cf0 : (Rows.fnExactDoDeedRow.wf (OpenSpec.ofChange Rows.fnExactDoDeedSpec)) = true := by kernel_rfl
theorem cf1 : laidOutB Try.prog = true := laidOut
theorem cf2 : (mapsRowed Try.prog) = true := by kernel_rfl
theorem cf3 : (Try.f11.params.all (Try.prog.readableRec ·)) = true := by kernel_rfl
theorem cf4 : (namedTie Try.prog Rows.fnExactDoDeedRow.named Rows.fnExactDoDeedSpec.vars) = true := by kernel_rfl
theorem cf5 : ((Rows.fnExactDoDeedRow.stops == [])) = true := by kernel_rfl
theorem cf6 : ((Try.prog.stops == [])) = true := by kernel_rfl
theorem cf7 : ((Rows.fnExactDoDeedRow.knobs == [])) = true := by kernel_rfl
theorem cf8 : ((Try.prog.stopKnobs == [])) = true := by kernel_rfl
theorem cf9 : ((Rows.fnExactDoDeedRow.inPlace == Try.prog.inPlace 11)) = true := by kernel_rfl
theorem cf10 : ((Rows.fnExactDoDeedRow.unfollowed == Try.prog.unfollowed 11)) = true := by kernel_rfl
theorem cf11 : ((Rows.fnExactDoDeedRow.recurses == Try.prog.recurses 11)) = true := by kernel_rfl
theorem cf12 : ((Rows.fnExactDoDeedRow.named == Try.prog.varsNamed 11)) = true := by kernel_rfl
theorem cf13 : ((Rows.fnExactDoDeedRow.maps == (Try.f11.params.toList ++ Rows.fnExactDoDeedSpec.plain.varTypes Try.prog).any (Try.prog.mapsRec ·))) = true := by kernel_rfl
theorem cf14 : ((Rows.fnExactDoDeedRow.ifaces == (Try.f11.params.toList ++ Rows.fnExactDoDeedSpec.plain.varTypes Try.prog).any (Try.prog.ifacesRec ·))) = true := by kernel_rfl
theorem cf15 : ((Rows.fnExactDoDeedRow.mapsOut == Try.prog.mapsAmong Try.f11.resultTypes.toList)) = true := by kernel_rfl
theorem cf16 : ((Rows.fnExactDoDeedRow.loops == (Try.f11.params.toList ++ Rows.fnExactDoDeedSpec.plain.varTypes Try.prog).any (Try.prog.loopsFrom ·))) = true := by kernel_rfl
theorem cf17 : ((Rows.fnExactDoDeedRow.wideKeys == (Try.f11.params.toList ++ Rows.fnExactDoDeedSpec.plain.varTypes Try.prog ++ Try.f11.resultTypes.toList).any (Try.prog.wideKeysFrom ·))) = true := by kernel_rfl
theorem cf18 : (Rows.fnExactDoDeedSpec.vars.all (Try.prog.varReadable ·)) = true := by kernel_rfl
theorem cf19 : (Try.f11.resultTypes.all (fun t => Try.prog.readableRec t && decide (t < Try.prog.types.size))) = true := by kernel_rfl
theorem cf20 : ((Rows.fnExactDoDeedRow.ifacesOut == Try.f11.resultTypes.toList.any (Try.prog.ifacesRec ·))) = true := by kernel_rfl
theorem cf21 : ((Rows.fnExactDoDeedRow.loopsOut == Try.f11.resultTypes.toList.any (Try.prog.loopsFrom ·))) = true := by kernel_rfl
theorem cf22 : ((Rows.fnExactDoDeedRow.plainKeys == Try.prog.plainKeys)) = true := by kernel_rfl
theorem cf23 : (Rows.fnExactDoDeedRow.shortTexts.isNone) = true := by kernel_rfl
theorem cf24 : (Try.prog.stopsHeard) = true := by kernel_rfl
theorem cf28 : ((Rows.fnExactDoDeedRow.kinds == (if Rows.fnExactDoDeedRow.domain.isEmpty then [] else Try.f11.params.toList.map fun t => match Try.prog.underlying t with  |  some (.int k) => some k  |  _ => none))) = true := by kernel_rfl
theorem cf29 : ((Rows.fnExactDoDeedRow.pinned == Rows.fnExactDoDeedRow.pinnedBy)) = true := by kernel_rfl
theorem cf30 : ((Rows.fnExactDoDeedRow.veiled == (Try.f11.params.toList ++ Rows.fnExactDoDeedSpec.plain.varTypes Try.prog ++ Try.f11.resultTypes.toList).any (Try.prog.veiledRec ·))) = true := by kernel_rfl
theorem cf31 : (Rows.fnExactDoDeedRow.veiledFits Try.prog Try.f11.params.toList (Try.f11.params.toList ++ Rows.fnExactDoDeedSpec.plain.varTypes Try.prog ++ Try.f11.resultTypes.toList)) = true := by kernel_rfl
end Go.Proofs.Ytijhomjbcpaknaa.fnExactDoDeed
