/- A part of the proof of FnExactDoDeeds: the statement itself: the program answers true for every input and leaves its argument as it was. No condition. -/
import Derived.Test.YtijhomjbcpaknaaGreatRows
import Derived.Test.YtijhomjbcpaknaaGreatFnExactDoDeedsB
import Derived.Test.YtijhomjbcpaknaaGreatFnExactDoDeedsG
import Derived.Test.YtijhomjbcpaknaaGreatFnExactDoDeedsH
/- The row of the law FnExactDoDeeds: its pure law and its walk, joined. -/
namespace Go.Proofs.YtijhomjbcpaknaaGreat.fnExactDoDeeds
open Go Go.Ga Go.Ga.Rp Go.Ga.Flat Go.Ga.Wf Go.ChangeShapes Go.WideShapes Go.ChangeAt Go.RowKit
open Go.ChangeMaps (open_string shut_string)
set_option linter.unusedVariables false
set_option maxHeartbeats 4000000
theorem opnT3 : Opn Tryz.prog 3 (Int) := opn_int Tryz.underlying3
theorem opnT72 : Opn Tryz.prog 72 (Int × Int × Int) := opn_arr3 Tryz.underlying72 (by kernel_rfl) (by kernel_rfl) opnT3
theorem opnT22 : Opn Tryz.prog 22 (List (Int × Int × Int)) := opn_slice Tryz.underlying22 (by kernel_rfl) (by decide) opnT72
theorem opnT23 : Opn Tryz.prog 23 (List Int) := opn_slice Tryz.underlying23 (by kernel_rfl) (by decide) opnT3
theorem opnT25 : Opn Tryz.prog 25 (Int × List (Int × Int × Int) × List Int) := opn_struct (N := 3) Tryz.underlying25 (by kernel_rfl) (opnFs_cons opnT3 rfl (by kernel_rfl) (opnFs_cons opnT22 rfl (by kernel_rfl) (opnFs_one opnT23 rfl (by kernel_rfl))))
theorem opnT27 : Opn Tryz.prog 27 (Int × List (Int × Int × Int) × List Int × List Int × Int) := opn_struct (N := 5) Tryz.underlying27 (by kernel_rfl) (OpnFs.cv (opnFs_cons opnT25 rfl (by kernel_rfl) (opnFs_cons opnT23 rfl (by kernel_rfl) (opnFs_one opnT3 rfl (by kernel_rfl)))) (Cv.assoc.trans (Cv.right (Cv.assoc))))
theorem opR27 {w : World} {cs : List Value} {t : Int × List (Int × Int × Int) × List Int × List Int × Int} (h : rep w (fun _ => True) cs t) : ∃ v1 v2 v3 : Value, cs = [.int .i64 t.1, v1, v2, v3, .int .i64 t.2.2.2.2] ∧ Rd w v1 t.2.1 ∧ Rd w v2 t.2.2.1 ∧ Rd w v3 t.2.2.2.1 := by
  obtain ⟨_, _, rfl, h0, ⟨_, _, rfl, ⟨v1, rfl, h1⟩, ⟨_, _, rfl, ⟨v2, rfl, h2⟩, ⟨_, _, rfl, ⟨v3, rfl, h3⟩, h4⟩⟩⟩⟩ := h
  rw [Flat.rp h0]
  rw [Flat.rp h4]
  exact ⟨v1, v2, v3, rfl, h1, h2, h3⟩
theorem opnT55 : Opn Tryz.prog 55 (Int × Int × Int × Int) := opn_struct (N := 4) Tryz.underlying55 (by kernel_rfl) (opnFs_cons opnT3 rfl (by kernel_rfl) (opnFs_cons opnT3 rfl (by kernel_rfl) (opnFs_cons opnT3 rfl (by kernel_rfl) (opnFs_one opnT3 rfl (by kernel_rfl)))))
theorem opnT28 : Opn Tryz.prog 28 (List (Int × Int × Int × Int)) := opn_slice Tryz.underlying28 (by kernel_rfl) (by decide) opnT55
theorem opR28 {w : World} {cs : List Value} {t : List (Int × Int × Int × Int)} (h : rep w (fun _ => True) cs t) : ∃ v0 : Value, cs = [v0] ∧ Rd w v0 t := by
  obtain ⟨v0, rfl, h0⟩ := h
  exact ⟨v0, rfl, h0⟩
theorem own : ownKnob Tryz.prog.godebug = none := by kernel_rfl
theorem laidOut : laidOutB Tryz.prog = true := by kernel_rfl
set_option maxRecDepth 100000 in
theorem lifted (os : Os) (started : os.Started) (H : Type) (enc : TypeId × Value → H) :
    ReturnsInHanded {} Tryz.checked os 3 .any (Rows.fnExactDoDeedsSpec.pre6 enc Tryz.prog Tryz.f3 Rows.fnExactDoDeedsRow.domain false) (Rows.fnExactDoDeedsSpec.post enc Tryz.prog Tryz.f3 false true false false) := by
  refine returnsInHanded_of_change_sized (C := Tryz.checked) own started (by kernel_rfl) Tryz.func3
    (ChangeSpec.witness6 (enc := enc) (C := Tryz.checked) false ⟨#[], #[.agg #[.int .i64 0, .slice none 0 0, .slice none 0 0, .slice none 0 0, .int .i64 0], .slice none 0 0], []⟩ 8 (by kernel_rfl) (by kernel_rfl) (by kernel_rfl) (by kernel_rfl)) ?_
  intro W base args ds gs before hval0 hW hcnd _ _
  have hval : ∀ (j : Nat) t v, Tryz.f3.params[j]? = some t → args[j]? = some v → Value.okWide Tryz.prog W .any base t v := hval0
  have hW' := hW
  obtain ⟨p, q, hA0, hV, rfl, hfz, hnd⟩ := hW
  have hA : DataW.TrodAll enc Tryz.prog W 0 (fun _ => true) true Tryz.f3.params.toList args.toList ds p := hA0
  rw [Tryz.params3] at hA hval
  obtain ⟨u0, us0, d0, ds0, p0, q0, hargs, rfl, rfl, h0, z0⟩ := trodAll_cons hA
  obtain ⟨u1, us1, d1, ds1, p1, q1, rfl, rfl, rfl, h1, z1⟩ := trodAll_cons z0
  obtain ⟨rfl, rfl, rfl⟩ := trodAll_nil z1
  obtain rfl : args = #[u0, u1] := by cases args; simp_all
  obtain ⟨rfl, rfl⟩ := trodVars_none hV
  have lt0 : ∀ x ∈ p0, x.block < W.heap.size := by obtain ⟨m, hm⟩ := h0; exact DataW.trod_lt m _ _ _ hm
  obtain ⟨cs0, rfl, _⟩ := okWide_struct Tryz.underlying27 (hval 0 27 u0 rfl rfl)
  obtain ⟨fu0, hf0⟩ := id h0
  obtain ⟨x0, hx0, hw0⟩ := opnT27 enc W 0 _ true _ _ _ (fun _ => rfl) hf0
  obtain ⟨v0_1, v0_2, v0_3, hc0, r0_1, r0_2, r0_3⟩ := opR27 hx0
  obtain ⟨cs0⟩ := cs0
  simp only [Value.cells] at hc0
  subst hc0
  have lt1 : ∀ x ∈ p1, x.block < W.heap.size := by obtain ⟨m, hm⟩ := h1; exact DataW.trod_lt m _ _ _ hm
  obtain ⟨sa1, sl1, sc1, rfl⟩ := okWide_slice Tryz.underlying28 (hval 1 28 u1 rfl rfl)
  obtain ⟨fu1, hf1⟩ := id h1
  obtain ⟨x1, hx1, hw1⟩ := opnT28 enc W 0 _ true _ _ _ (fun _ => rfl) hf1
  obtain ⟨v1_0, hc1, r1_0⟩ := opR28 hx1
  simp only [Value.cells, List.cons.injEq, and_true] at hc1
  subst hc1
  obtain ⟨k, hk⟩ := laws_FnExactDoDeeds.pure x0 x1 hw0 hw1
  refine (laws_FnExactDoDeeds.ok hk W r0_1 r0_2 r0_3 r1_0).mono fun e W' ⟨he, ext⟩ => ?_
  subst he
  have bel := Ext.below ext
  exact ⟨_, rfl, _, _, _, [], _, [], hW', trodAll_mk1 (shut_bool Tryz.underlying4 _), (trodAll_cons_mk (Below.trod laidOut (by kernel_rfl) (of_decide_eq_true (by kernel_rfl)) h0 bel lt0) (trodAll_cons_mk (Below.trod laidOut (by kernel_rfl) (of_decide_eq_true (by kernel_rfl)) h1 bel lt1) trodAll_mk0)), rfl, bel.frame _, fun h => by cases h⟩
theorem cf0 : (Rows.fnExactDoDeedsRow.wf (OpenSpec.ofChange Rows.fnExactDoDeedsSpec)) = true := by kernel_rfl
theorem cf1 : laidOutB Tryz.prog = true := laidOut
theorem cf2 : (mapsRowed Tryz.prog) = true := by kernel_rfl
theorem cf3 : (Tryz.f3.params.all (Tryz.prog.readableRec ·)) = true := by kernel_rfl
theorem cf4 : (namedTie Tryz.prog Rows.fnExactDoDeedsRow.named Rows.fnExactDoDeedsSpec.vars) = true := by kernel_rfl
theorem cf5 : ((Rows.fnExactDoDeedsRow.stops == [])) = true := by kernel_rfl
theorem cf6 : ((Tryz.prog.stops == [])) = true := by kernel_rfl
theorem cf7 : ((Rows.fnExactDoDeedsRow.knobs == [])) = true := by kernel_rfl
theorem cf8 : ((Tryz.prog.stopKnobs == [])) = true := by kernel_rfl
theorem cf9 : ((Rows.fnExactDoDeedsRow.inPlace == Tryz.prog.inPlace 3)) = true := by kernel_rfl
theorem cf10 : ((Rows.fnExactDoDeedsRow.unfollowed == Tryz.prog.unfollowed 3)) = true := by kernel_rfl
theorem cf11 : ((Rows.fnExactDoDeedsRow.recurses == Tryz.prog.recurses 3)) = true := by kernel_rfl
theorem cf12 : ((Rows.fnExactDoDeedsRow.named == Tryz.prog.varsNamed 3)) = true := by kernel_rfl
theorem cf13 : ((Rows.fnExactDoDeedsRow.maps == (Tryz.f3.params.toList ++ Rows.fnExactDoDeedsSpec.plain.varTypes Tryz.prog).any (Tryz.prog.mapsRec ·))) = true := by kernel_rfl
theorem cf14 : ((Rows.fnExactDoDeedsRow.ifaces == (Tryz.f3.params.toList ++ Rows.fnExactDoDeedsSpec.plain.varTypes Tryz.prog).any (Tryz.prog.ifacesRec ·))) = true := by kernel_rfl
theorem cf15 : ((Rows.fnExactDoDeedsRow.mapsOut == Tryz.prog.mapsAmong Tryz.f3.resultTypes.toList)) = true := by kernel_rfl
theorem cf16 : ((Rows.fnExactDoDeedsRow.loops == (Tryz.f3.params.toList ++ Rows.fnExactDoDeedsSpec.plain.varTypes Tryz.prog).any (Tryz.prog.loopsFrom ·))) = true := by kernel_rfl
theorem cf17 : ((Rows.fnExactDoDeedsRow.wideKeys == (Tryz.f3.params.toList ++ Rows.fnExactDoDeedsSpec.plain.varTypes Tryz.prog ++ Tryz.f3.resultTypes.toList).any (Tryz.prog.wideKeysFrom ·))) = true := by kernel_rfl
theorem cf18 : (Rows.fnExactDoDeedsSpec.vars.all (Tryz.prog.varReadable ·)) = true := by kernel_rfl
theorem cf19 : (Tryz.f3.resultTypes.all (fun t => Tryz.prog.readableRec t && decide (t < Tryz.prog.types.size))) = true := by kernel_rfl
theorem cf20 : ((Rows.fnExactDoDeedsRow.ifacesOut == Tryz.f3.resultTypes.toList.any (Tryz.prog.ifacesRec ·))) = true := by kernel_rfl
theorem cf21 : ((Rows.fnExactDoDeedsRow.loopsOut == Tryz.f3.resultTypes.toList.any (Tryz.prog.loopsFrom ·))) = true := by kernel_rfl
theorem cf22 : ((Rows.fnExactDoDeedsRow.plainKeys == Tryz.prog.plainKeys)) = true := by kernel_rfl
theorem cf23 : (Rows.fnExactDoDeedsRow.shortTexts.isNone) = true := by kernel_rfl
theorem cf24 : (Tryz.prog.stopsHeard) = true := by kernel_rfl
theorem cf28 : ((Rows.fnExactDoDeedsRow.kinds == (if Rows.fnExactDoDeedsRow.domain.isEmpty then [] else Tryz.f3.params.toList.map fun t => match Tryz.prog.underlying t with  |  some (.int k) => some k  |  _ => none))) = true := by kernel_rfl
theorem cf29 : ((Rows.fnExactDoDeedsRow.pinned == Rows.fnExactDoDeedsRow.pinnedBy)) = true := by kernel_rfl
theorem cf30 : ((Rows.fnExactDoDeedsRow.veiled == (Tryz.f3.params.toList ++ Rows.fnExactDoDeedsSpec.plain.varTypes Tryz.prog ++ Tryz.f3.resultTypes.toList).any (Tryz.prog.veiledRec ·))) = true := by kernel_rfl
theorem cf31 : (Rows.fnExactDoDeedsRow.veiledFits Tryz.prog Tryz.f3.params.toList (Tryz.f3.params.toList ++ Rows.fnExactDoDeedsSpec.plain.varTypes Tryz.prog ++ Tryz.f3.resultTypes.toList)) = true := by kernel_rfl
end Go.Proofs.YtijhomjbcpaknaaGreat.fnExactDoDeeds
