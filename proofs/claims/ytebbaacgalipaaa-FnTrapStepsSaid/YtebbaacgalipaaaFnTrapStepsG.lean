/- A part of the proof of FnTrapSteps: what the functions of the program compute, walked on the model. No condition. -/
import Derived.Test.YtebbaacgalipaaaFnTrapStepsC
import Derived.Test.YtebbaacgalipaaaFnTrapStepsD
import Derived.Test.YtebbaacgalipaaaFnTrapStepsE
import Derived.Test.YtebbaacgalipaaaFnTrapStepsF
set_option linter.unusedSimpArgs false
/- loop.example/g01158/laws.FnTrapSteps -/
namespace Go.Proofs
open Go Go.Ga
set_option linter.unusedVariables false
set_option maxRecDepth 100000
set_option maxHeartbeats 4000000
def laws_FnTrapSteps.l1 (k : Nat) (t50_1 : Int) (t50_2 : List (Int × Int × Int)) (t50_3 : List Int) (t50_4 : List Int) (t56_1 : List Int) (t242_2 : Int) (t257_1 : List Int) : Nat → Int → Option ((Unit) ⊕ (Bool))
 | 0, _ => none
 | n + 1, x43 => (if (decide (x43 < (t257_1.length : Int))) = true then (rdl t257_1 x43).bind fun t284 => (rdl t257_1 x43).bind fun t292 => (rdl t50_3 t292).bind fun t294 => (impl_IsGood.f k t50_1 t50_2 t50_3 t50_4 t284 (bor t242_2 t294)).bind fun (t297_1, t297_2) => ((if (!t297_2) = true then some true else (rdl t257_1 x43).bind fun t306 => (laws_rHas.f k t56_1 t306).bind fun t308 => some (t308 != t297_1))).bind fun y311 => (if y311 = true then some (Sum.inr false) else laws_FnTrapSteps.l1 k t50_1 t50_2 t50_3 t50_4 t56_1 t242_2 t257_1 n (w64 (x43 + 1))) else some (Sum.inl ()))

def laws_FnTrapSteps.l2 (k : Nat) (t50_1 : Int) (t50_2 : List (Int × Int × Int)) (t50_3 : List Int) (t50_4 : List Int) (t56_1 : List Int) (t242_2 : Int) (t257_1 : List Int) : Nat → Int → Option ((Unit) ⊕ (Bool))
 | 0, _ => none
 | n + 1, x43r => (if (decide (x43r < (t257_1.length : Int))) = true then (rdl t257_1 x43r).bind fun t284 => (rdl t257_1 x43r).bind fun t292 => (rdl t50_3 t292).bind fun t294 => (impl_IsGood.f k t50_1 t50_2 t50_3 t50_4 t284 (bor t242_2 t294)).bind fun (t297_1, t297_2) => ((if (!t297_2) = true then some true else (rdl t257_1 x43r).bind fun t306 => (laws_rHas.f k t56_1 t306).bind fun t308 => some (t308 != t297_1))).bind fun y311r => (if y311r = true then some (Sum.inr false) else laws_FnTrapSteps.l2 k t50_1 t50_2 t50_3 t50_4 t56_1 t242_2 t257_1 n (w64 (x43r + 1))) else some (Sum.inl ()))

def laws_FnTrapSteps.l0 (k : Nat) (t104_1 : Int) (t104_2 : List (Int × Int × Int)) (t104_3 : List Int) (t104_4 : List Int) (t104_6 : Int) (t112_1 : List Int) : Nat → Bool → Int → Option ((Bool) ⊕ (Bool))
 | 0, _, _ => none
 | n + 1, x29, x30 => (if (decide (x30 < (t112_1.length : Int))) = true then (rdl t112_1 x30).bind fun t196 => (rdl t112_1 x30).bind fun t204 => (rdl t104_3 t204).bind fun t206 => (impl_IsGood.f k t104_1 t104_2 t104_3 t104_4 t196 (bor t104_6 t206)).bind fun (t209_1, t209_2) => (if (!t209_2) = true then some (Sum.inr false) else ((if x29 = true then some true else some t209_1)).bind fun y29 => laws_FnTrapSteps.l0 k t104_1 t104_2 t104_3 t104_4 t104_6 t112_1 n y29 (w64 (x30 + 1))) else some (Sum.inl x29))

def laws_FnTrapSteps.l3 (k : Nat) (t50_1 : Int) (t50_2 : List (Int × Int × Int)) (t50_3 : List Int) (t50_4 : List Int) (t56_1 : List Int) (t242_2 : Int) (t257_1 : List Int) : Nat → Int → Option ((Unit) ⊕ (Bool))
 | 0, _ => none
 | n + 1, x43rr => (if (decide (x43rr < (t257_1.length : Int))) = true then (rdl t257_1 x43rr).bind fun t284 => (rdl t257_1 x43rr).bind fun t292 => (rdl t50_3 t292).bind fun t294 => (impl_IsGood.f k t50_1 t50_2 t50_3 t50_4 t284 (bor t242_2 t294)).bind fun (t297_1, t297_2) => ((if (!t297_2) = true then some true else (rdl t257_1 x43rr).bind fun t306 => (laws_rHas.f k t56_1 t306).bind fun t308 => some (t308 != t297_1))).bind fun y311rr => (if y311rr = true then some (Sum.inr false) else laws_FnTrapSteps.l3 k t50_1 t50_2 t50_3 t50_4 t56_1 t242_2 t257_1 n (w64 (x43rr + 1))) else some (Sum.inl ()))

def laws_FnTrapSteps.l4 (k : Nat) (t50_1 : Int) (t50_2 : List (Int × Int × Int)) (t50_3 : List Int) (t50_4 : List Int) (t56_1 : List Int) (t242_2 : Int) (t257_1 : List Int) : Nat → Int → Option ((Unit) ⊕ (Bool))
 | 0, _ => none
 | n + 1, x43rrr => (if (decide (x43rrr < (t257_1.length : Int))) = true then (rdl t257_1 x43rrr).bind fun t284 => (rdl t257_1 x43rrr).bind fun t292 => (rdl t50_3 t292).bind fun t294 => (impl_IsGood.f k t50_1 t50_2 t50_3 t50_4 t284 (bor t242_2 t294)).bind fun (t297_1, t297_2) => ((if (!t297_2) = true then some true else (rdl t257_1 x43rrr).bind fun t306 => (laws_rHas.f k t56_1 t306).bind fun t308 => some (t308 != t297_1))).bind fun y311rrr => (if y311rrr = true then some (Sum.inr false) else laws_FnTrapSteps.l4 k t50_1 t50_2 t50_3 t50_4 t56_1 t242_2 t257_1 n (w64 (x43rrr + 1))) else some (Sum.inl ()))

def laws_FnTrapSteps.f (k : Nat) (a0 : List By) : Option (Bool) := (laws_rBig.f k a0).bind fun t47 => (if t47 = true then some true else (spec_DrawGoodSteps.f k a0).bind fun (t50_1, t50_2, t50_3, t50_4, t50_5) => (impl_GoodSteps.f k t50_1 t50_2 t50_3 t50_4 t50_5).bind fun (t56_1, t56_2) => (spec_GoodSteps.f k t50_1 t50_2 t50_3 t50_4 t50_5).bind fun (t62_1, t62_2) => ((if (t56_2 != t62_2) = true then some true else (laws_rInts.f k t56_1 t62_1).bind fun t71 => some (!t71))).bind fun y73 => (if y73 = true then some false else (impl_IsTrapWalk.f k t50_1 t50_2 t50_3 t50_4 t50_5).bind fun (t77_1, t77_2) => (spec_IsTrapWalk.f k t50_1 t50_2 t50_3 t50_4 t50_5).bind fun (t83_1, t83_2) => ((if (t77_1 != t83_1) = true then some true else (if (t77_2 != t83_2) = true then some true else (if t77_2 = true then some (t56_2 != t77_1) else some (t56_2 != false))))).bind fun y101 => (if y101 = true then some false else (spec_DrawStepsFrom.f k a0).bind fun (t104_1, t104_2, t104_3, t104_4, t104_5, t104_6) => (impl_StepsFrom.f k t104_1 t104_2 t104_3 t104_4 t104_5 t104_6).bind fun (t112_1, t112_2) => (spec_StepsFrom.f k t104_1 t104_2 t104_3 t104_4 t104_5 t104_6).bind fun (t119_1, t119_2) => ((if (t112_2 != t119_2) = true then some true else (laws_rInts.f k t112_1 t119_1).bind fun t128 => some (!t128))).bind fun y130 => (if y130 = true then some false else (impl_IsGood.f k t104_1 t104_2 t104_3 t104_4 t104_5 t104_6).bind fun (t135_1, t135_2) => (spec_IsGood.f k t104_1 t104_2 t104_3 t104_4 t104_5 t104_6).bind fun (t142_1, t142_2) => ((if (t135_1 != t142_1) = true then some true else (if (t135_2 != t142_2) = true then some true else some (t135_2 != t112_2)))).bind fun y157 => (if y157 = true then some false else (spec_DrawTrapFreeSets.f k a0).bind fun (t159_1, t159_2, t159_3, t159_4) => (impl_TrapFreeSets.f k t159_1 t159_2 t159_3 t159_4).bind fun (t162_1, t162_2) => (spec_TrapFreeSets.f k t159_1 t159_2 t159_3 t159_4).bind fun (t167_1, t167_2) => ((if (t162_2 != t167_2) = true then some true else (laws_rInts.f k t162_1 t167_1).bind fun t176 => some (!t176))).bind fun y178 => (if y178 = true then some false else (if t135_2 = true then (laws_FnTrapSteps.l0 k t104_1 t104_2 t104_3 t104_4 t104_6 t112_1 k (t104_5 == (w64 (t104_1 - 1))) 0).bind fun s => Lr s some fun x29 => (if (x29 != t135_1) = true then some false else (if t162_2 = true then (impl_CountMet.f k t159_1 t159_2 t159_3 t159_4).bind fun (t224_1, t224_2, t224_3) => ((if (!t224_3) = true then some true else (laws_rHas.f k t162_1 0).bind fun t232 => some (t232 != (t224_2 == 0)))).bind fun y236 => (if y236 = true then some false else (if (!t56_2) = true then some true else (impl_StateBehind.f k t50_1 t50_2 t50_3 t50_4 t50_5).bind fun (t242_1, t242_2, t242_3) => (impl_IsKeyWalk.f k t50_1 t50_2 t50_3 t50_5).bind fun (t250_1, t250_2) => (impl_StepsFrom.f k t50_1 t50_2 t50_3 t50_4 t242_1 t242_2).bind fun (t257_1, t257_2) => ((if (!t242_3) = true then some true else (if (!t250_2) = true then some true else (if (!t257_2) = true then some true else some (!t250_1))))).bind fun y273 => (if y273 = true then some false else (laws_FnTrapSteps.l1 k t50_1 t50_2 t50_3 t50_4 t56_1 t242_2 t257_1 k 0).bind fun s => Lr s some fun _ => some (decide ((t56_1.length : Int) ≤ (t257_1.length : Int)))))) else (if (!t56_2) = true then some true else (impl_StateBehind.f k t50_1 t50_2 t50_3 t50_4 t50_5).bind fun (t242_1, t242_2, t242_3) => (impl_IsKeyWalk.f k t50_1 t50_2 t50_3 t50_5).bind fun (t250_1, t250_2) => (impl_StepsFrom.f k t50_1 t50_2 t50_3 t50_4 t242_1 t242_2).bind fun (t257_1, t257_2) => ((if (!t242_3) = true then some true else (if (!t250_2) = true then some true else (if (!t257_2) = true then some true else some (!t250_1))))).bind fun y273r => (if y273r = true then some false else (laws_FnTrapSteps.l2 k t50_1 t50_2 t50_3 t50_4 t56_1 t242_2 t257_1 k 0).bind fun s => Lr s some fun _ => some (decide ((t56_1.length : Int) ≤ (t257_1.length : Int))))))) else (if t162_2 = true then (impl_CountMet.f k t159_1 t159_2 t159_3 t159_4).bind fun (t224_1, t224_2, t224_3) => ((if (!t224_3) = true then some true else (laws_rHas.f k t162_1 0).bind fun t232 => some (t232 != (t224_2 == 0)))).bind fun y236r => (if y236r = true then some false else (if (!t56_2) = true then some true else (impl_StateBehind.f k t50_1 t50_2 t50_3 t50_4 t50_5).bind fun (t242_1, t242_2, t242_3) => (impl_IsKeyWalk.f k t50_1 t50_2 t50_3 t50_5).bind fun (t250_1, t250_2) => (impl_StepsFrom.f k t50_1 t50_2 t50_3 t50_4 t242_1 t242_2).bind fun (t257_1, t257_2) => ((if (!t242_3) = true then some true else (if (!t250_2) = true then some true else (if (!t257_2) = true then some true else some (!t250_1))))).bind fun y273rr => (if y273rr = true then some false else (laws_FnTrapSteps.l3 k t50_1 t50_2 t50_3 t50_4 t56_1 t242_2 t257_1 k 0).bind fun s => Lr s some fun _ => some (decide ((t56_1.length : Int) ≤ (t257_1.length : Int)))))) else (if (!t56_2) = true then some true else (impl_StateBehind.f k t50_1 t50_2 t50_3 t50_4 t50_5).bind fun (t242_1, t242_2, t242_3) => (impl_IsKeyWalk.f k t50_1 t50_2 t50_3 t50_5).bind fun (t250_1, t250_2) => (impl_StepsFrom.f k t50_1 t50_2 t50_3 t50_4 t242_1 t242_2).bind fun (t257_1, t257_2) => ((if (!t242_3) = true then some true else (if (!t250_2) = true then some true else (if (!t257_2) = true then some true else some (!t250_1))))).bind fun y273rrr => (if y273rrr = true then some false else (laws_FnTrapSteps.l4 k t50_1 t50_2 t50_3 t50_4 t56_1 t242_2 t257_1 k 0).bind fun s => Lr s some fun _ => some (decide ((t56_1.length : Int) ≤ (t257_1.length : Int)))))))))))))

theorem laws_FnTrapSteps.ok {k : Nat}  {a0 : List By} {r0 : Bool} (h : laws_FnTrapSteps.f k a0 = some r0) (w : World) {va0 : Value} (hr_a0 : Rd w va0 a0) :
  Calls Try.prog 6 ([va0] : List Value).toArray w (fun e w' => e = .returned (.bool r0) ∧ Ext w w') := by
 unfold laws_FnTrapSteps.f at h
 have hl_va0 := hr_a0.len
 refine Calls.of_tri (N := 317) Try.func6 rfl rfl rfl (Sep.nil (M := noM)) ?_
 refine Tri.seq (Tri.reg (l := [0]) rfl ?_)
 refine F.qn rfl rfl rfl rfl (r_assign rfl) ?_
 refine F.nil (Nrm.seq (Tri.seq (Tri.seq ?_)))
 obtain ⟨t47, h47, h⟩ := bind_some h
 refine Tri.reg (l := [0, 1]) rfl ?_
 refine F.qn rfl rfl rfl rfl (r_move rfl) ?_
 refine F.qcn rfl rfl rfl rfl (q_callF (xs := _) rfl ok47 rfl rfl (fun w hw => laws_rBig.ok h47 w ((fun _ hw => hr_a0.sep hw) w hw))) ?_
 refine F.nil (Nrm.seq (Tri.cond (b := t47) rfl (fun g_1 => ?_) (fun g_1 => ?_)))
 ·replace h := if_tt g_1 h
  refine Tri.seq (Tri.reg (l := [0]) rfl ?_)
  refine F.qn rfl rfl rfl rfl (r_assign rfl) ?_
  refine F.nil (Nrm.seq (Tri.ret ?_))
  refine Rtn.then ?_
  cases h
  exact Rtn.body (.tmp rfl .nil) (fun w hw => ⟨rfl, hw.ext⟩)
 ·replace h := if_ff g_1 h
  refine Tri.skip (Nrm.seq (Tri.seq ?_))
  obtain ⟨⟨t50_1, t50_2, t50_3, t50_4, t50_5⟩, h50, h⟩ := bind_some h
  refine Tri.reg (l := [0, 1, 2, 3, 4, 5, 6, 7]) rfl ?_
  refine F.qn rfl rfl rfl rfl (r_move rfl) ?_
  refine F.mn rfl rfl rfl rfl (m_callF (xs := _) rfl ok48 rfl rfl (fun w hw => spec_DrawGoodSteps.ok h50 w ((fun _ hw => hr_a0.sep hw) w hw))) ?_
  rintro _ _ ⟨_, ⟨v50_1, S50_1, v50_2, S50_2, v50_3, S50_3, v50_4, S50_4, rfl, hl_v50_1, hl_v50_2, hl_v50_3, hl_v50_4, rfl⟩, rfl⟩
  refine F.qn rfl rfl rfl rfl (r_move rfl) ?_
  refine F.qn rfl rfl rfl rfl (r_extract rfl rfl) ?_
  refine F.qn rfl rfl rfl rfl (r_extract rfl rfl) ?_
  refine F.mn rfl rfl rfl rfl (m_alloc ti66) ?_
  rintro _ _ ⟨b3_1, rfl, rfl⟩
  refine F.ef0 rfl rfl (wanted_none rfl) (d_storeG0 (i := 0) (cs2 := [.int .i64 t50_1, v50_1, v50_2, v50_3]) ti66 rfl rfl rfl rfl rfl (Nat.le_of_ble_eq_true rfl) (lf_cons rfl (lf_cons (sl_leaf hl_v50_1) (lf_cons (sl_leaf hl_v50_2) (lf_cons (sl_leaf hl_v50_3) lf_nil))))) ?_
  rintro _ _ ⟨rfl, rfl⟩
  refine F.qn rfl rfl rfl rfl (r_assign rfl) ?_
  refine F.nil (Nrm.seq (Tri.seq ?_))
  obtain ⟨⟨t56_1, t56_2⟩, h56, h⟩ := bind_some h
  refine Tri.reg (l := [0, 1, 2, 3, 4, 5, 6, 7]) rfl ?_
  refine F.qn rfl rfl rfl rfl (r_loadA ta66 ti66 rfl rfl (fun w hw => (box_cells (i := 0) rfl w hw))) ?_
  refine F.qn rfl rfl rfl rfl (r_move rfl) ?_
  refine F.mn rfl rfl rfl rfl (m_callF (xs := _) rfl ok49 rfl rfl (fun w hw => impl_GoodSteps.ok h56 w ((rd_sl (i := 1) rfl) w hw) ((rd_sl (i := 2) rfl) w hw) ((rd_sl (i := 3) rfl) w hw) ((rd_sl (i := 4) rfl) w hw))) ?_
  rintro _ _ ⟨_, ⟨v56_1, S56_1, rfl, hl_v56_1, rfl⟩, rfl⟩
  refine F.qn rfl rfl rfl rfl (r_move rfl) ?_
  refine F.qn rfl rfl rfl rfl (r_extract rfl rfl) ?_
  refine F.qn rfl rfl rfl rfl (r_extract rfl rfl) ?_
  refine F.qn rfl rfl rfl rfl (r_assign rfl) ?_
  refine F.qn rfl rfl rfl rfl (r_assign rfl) ?_
  refine F.nil (Nrm.seq (Tri.seq (Tri.seq ?_)))
  obtain ⟨⟨t62_1, t62_2⟩, h62, h⟩ := bind_some h
  refine Tri.reg (l := [0, 1, 2, 3, 4, 5, 6, 7]) rfl ?_
  refine F.qn rfl rfl rfl rfl (r_loadA ta66 ti66 rfl rfl (fun w hw => (box_cells (i := 1) rfl w hw))) ?_
  refine F.qn rfl rfl rfl rfl (r_move rfl) ?_
  refine F.mn rfl rfl rfl rfl (m_callF (xs := _) rfl ok50 rfl rfl (fun w hw => spec_GoodSteps.ok h62 w ((rd_sl (i := 2) rfl) w hw) ((rd_sl (i := 3) rfl) w hw) ((rd_sl (i := 4) rfl) w hw) ((rd_sl (i := 5) rfl) w hw))) ?_
  rintro _ _ ⟨_, ⟨v62_1, S62_1, rfl, hl_v62_1, rfl⟩, rfl⟩
  refine F.qn rfl rfl rfl rfl (r_move rfl) ?_
  refine F.qn rfl rfl rfl rfl (r_extract rfl rfl) ?_
  refine F.qn rfl rfl rfl rfl (r_extract rfl rfl) ?_
  refine F.qn rfl rfl rfl rfl (r_assign rfl) ?_
  refine F.qn rfl rfl rfl rfl (r_assign rfl) ?_
  refine F.nil (Nrm.seq (Tri.seq ?_))
  obtain ⟨y73, hE_1, h⟩ := bind_some h
  refine Tri.cut (fun e' C' => e' = [(0, va0), (3, .pointer (some ⟨b3_1, 0, none⟩)), (4, v50_4), (5, v56_1), (6, .bool t56_2), (73, .bool y73)] ∧ C' = Sep w noM [R.box b3_1 66 [.int .i64 t50_1, v50_1, v50_2, v50_3], R.sl S50_1 v50_1 (t50_2 : List (Int × Int × Int)), R.sl S50_2 v50_2 (t50_3 : List (Int)), R.sl S50_3 v50_3 (t50_4 : List (Int)), R.sl S50_4 v50_4 (t50_5 : List (Int)), R.sl S56_1 v56_1 (t56_1 : List (Int))]) ?_ (fun hj_1 => ?_)
  ·rintro _ _ ⟨rfl, rfl⟩
   refine Nrm.seq (Tri.cond (b := y73) rfl (fun g_2 => ?_) (fun g_2 => ?_))
   ·replace h := if_tt g_2 h
    refine Tri.seq (Tri.reg (l := [0]) rfl ?_)
    refine F.qn rfl rfl rfl rfl (r_assign rfl) ?_
    refine F.nil (Nrm.seq (Tri.ret ?_))
    refine Rtn.then ?_
    cases h
    exact Rtn.body (.tmp rfl .nil) (fun w hw => ⟨rfl, hw.ext⟩)
   ·replace h := if_ff g_2 h
    refine Tri.skip (Nrm.seq (Tri.seq ?_))
    obtain ⟨⟨t77_1, t77_2⟩, h77, h⟩ := bind_some h
    refine Tri.reg (l := [0, 1, 2, 3, 4, 5, 6, 7]) rfl ?_
    refine F.qn rfl rfl rfl rfl (r_loadA ta66 ti66 rfl rfl (fun w hw => (box_cells (i := 0) rfl w hw))) ?_
    refine F.qn rfl rfl rfl rfl (r_move rfl) ?_
    refine F.qcn rfl rfl rfl rfl (q_callF (xs := _) rfl ok52 rfl rfl (fun w hw => impl_IsTrapWalk.ok h77 w ((rd_sl (i := 1) rfl) w hw) ((rd_sl (i := 2) rfl) w hw) ((rd_sl (i := 3) rfl) w hw) ((rd_sl (i := 4) rfl) w hw))) ?_
    refine F.qn rfl rfl rfl rfl (r_move rfl) ?_
    refine F.qn rfl rfl rfl rfl (r_extract rfl rfl) ?_
    refine F.qn rfl rfl rfl rfl (r_extract rfl rfl) ?_
    refine F.qn rfl rfl rfl rfl (r_assign rfl) ?_
    refine F.qn rfl rfl rfl rfl (r_assign rfl) ?_
    refine F.nil (Nrm.seq (Tri.seq (Tri.seq ?_)))
    obtain ⟨⟨t83_1, t83_2⟩, h83, h⟩ := bind_some h
    refine Tri.reg (l := [0, 1, 2, 3, 4, 5, 6, 7]) rfl ?_
    refine F.qn rfl rfl rfl rfl (r_loadA ta66 ti66 rfl rfl (fun w hw => (box_cells (i := 0) rfl w hw))) ?_
    refine F.qn rfl rfl rfl rfl (r_move rfl) ?_
    refine F.qcn rfl rfl rfl rfl (q_callF (xs := _) rfl ok53 rfl rfl (fun w hw => spec_IsTrapWalk.ok h83 w ((rd_sl (i := 1) rfl) w hw) ((rd_sl (i := 2) rfl) w hw) ((rd_sl (i := 3) rfl) w hw) ((rd_sl (i := 4) rfl) w hw))) ?_
    refine F.qn rfl rfl rfl rfl (r_move rfl) ?_
    refine F.qn rfl rfl rfl rfl (r_extract rfl rfl) ?_
    refine F.qn rfl rfl rfl rfl (r_extract rfl rfl) ?_
    refine F.qn rfl rfl rfl rfl (r_assign rfl) ?_
    refine F.qn rfl rfl rfl rfl (r_assign rfl) ?_
    refine F.nil (Nrm.seq (Tri.seq ?_))
    obtain ⟨y101, hE_2, h⟩ := bind_some h
    refine Tri.cut (fun e' C' => e' = [(0, va0), (3, .pointer (some ⟨b3_1, 0, none⟩)), (4, v50_4), (5, v56_1), (6, .bool t56_2), (101, .bool y101)] ∧ C' = Sep w noM [R.box b3_1 66 [.int .i64 t50_1, v50_1, v50_2, v50_3], R.sl S50_1 v50_1 (t50_2 : List (Int × Int × Int)), R.sl S50_2 v50_2 (t50_3 : List (Int)), R.sl S50_3 v50_3 (t50_4 : List (Int)), R.sl S50_4 v50_4 (t50_5 : List (Int)), R.sl S56_1 v56_1 (t56_1 : List (Int))]) ?_ (fun hj_2 => ?_)
    ·rintro _ _ ⟨rfl, rfl⟩
     refine Nrm.seq (Tri.cond (b := y101) rfl (fun g_3 => ?_) (fun g_3 => ?_))
     ·replace h := if_tt g_3 h
      refine Tri.seq (Tri.reg (l := [0]) rfl ?_)
      refine F.qn rfl rfl rfl rfl (r_assign rfl) ?_
      refine F.nil (Nrm.seq (Tri.ret ?_))
      refine Rtn.then ?_
      cases h
      exact Rtn.body (.tmp rfl .nil) (fun w hw => ⟨rfl, hw.ext⟩)
     ·replace h := if_ff g_3 h
      refine Tri.skip (Nrm.seq (Tri.seq ?_))
      obtain ⟨⟨t104_1, t104_2, t104_3, t104_4, t104_5, t104_6⟩, h104, h⟩ := bind_some h
      refine Tri.reg (l := [0, 1, 2, 3, 4, 5, 6, 7, 8, 9]) rfl ?_
      refine F.qn rfl rfl rfl rfl (r_move rfl) ?_
      refine F.mn rfl rfl rfl rfl (m_callF (xs := _) rfl ok54 rfl rfl (fun w hw => spec_DrawStepsFrom.ok h104 w ((fun _ hw => hr_a0.sep hw) w hw))) ?_
      rintro _ _ ⟨_, ⟨v104_1, S104_1, v104_2, S104_2, v104_3, S104_3, rfl, hl_v104_1, hl_v104_2, hl_v104_3, rfl⟩, rfl⟩
      refine F.qn rfl rfl rfl rfl (r_move rfl) ?_
      iterate 3 refine F.qn rfl rfl rfl rfl (r_extract rfl rfl) ?_
      refine F.mn rfl rfl rfl rfl (m_alloc ti66) ?_
      rintro _ _ ⟨b13_1, rfl, rfl⟩
      refine F.ef0 rfl rfl (wanted_none rfl) (d_storeG0 (i := 0) (cs2 := [.int .i64 t104_1, v104_1, v104_2, v104_3]) ti66 rfl rfl rfl rfl rfl (Nat.le_of_ble_eq_true rfl) (lf_cons rfl (lf_cons (sl_leaf hl_v104_1) (lf_cons (sl_leaf hl_v104_2) (lf_cons (sl_leaf hl_v104_3) lf_nil))))) ?_
      rintro _ _ ⟨rfl, rfl⟩
      refine F.qn rfl rfl rfl rfl (r_assign rfl) ?_
      refine F.qn rfl rfl rfl rfl (r_assign rfl) ?_
      refine F.nil (Nrm.seq (Tri.seq ?_))
      obtain ⟨⟨t112_1, t112_2⟩, h112, h⟩ := bind_some h
      refine Tri.reg (l := [0, 1, 2, 3, 4, 5, 6, 7, 8]) rfl ?_
      refine F.qn rfl rfl rfl rfl (r_loadA ta66 ti66 rfl rfl (fun w hw => (box_cells (i := 0) rfl w hw))) ?_
      refine F.qn rfl rfl rfl rfl (r_move rfl) ?_
      refine F.qn rfl rfl rfl rfl (r_move rfl) ?_
      refine F.mn rfl rfl rfl rfl (m_callF (xs := _) rfl ok55 rfl rfl (fun w hw => impl_StepsFrom.ok h112 w ((rd_sl (i := 1) rfl) w hw) ((rd_sl (i := 2) rfl) w hw) ((rd_sl (i := 3) rfl) w hw))) ?_
      rintro _ _ ⟨_, ⟨v112_1, S112_1, rfl, hl_v112_1, rfl⟩, rfl⟩
      refine F.qn rfl rfl rfl rfl (r_move rfl) ?_
      refine F.qn rfl rfl rfl rfl (r_extract rfl rfl) ?_
      refine F.qn rfl rfl rfl rfl (r_extract rfl rfl) ?_
      refine F.qn rfl rfl rfl rfl (r_assign rfl) ?_
      refine F.qn rfl rfl rfl rfl (r_assign rfl) ?_
      refine F.nil (Nrm.seq (Tri.seq (Tri.seq ?_)))
      obtain ⟨⟨t119_1, t119_2⟩, h119, h⟩ := bind_some h
      refine Tri.reg (l := [0, 1, 2, 3, 4, 5, 6, 7, 8]) rfl ?_
      refine F.qn rfl rfl rfl rfl (r_loadA ta66 ti66 rfl rfl (fun w hw => (box_cells (i := 1) rfl w hw))) ?_
      refine F.qn rfl rfl rfl rfl (r_move rfl) ?_
      refine F.qn rfl rfl rfl rfl (r_move rfl) ?_
      refine F.mn rfl rfl rfl rfl (m_callF (xs := _) rfl ok56 rfl rfl (fun w hw => spec_StepsFrom.ok h119 w ((rd_sl (i := 2) rfl) w hw) ((rd_sl (i := 3) rfl) w hw) ((rd_sl (i := 4) rfl) w hw))) ?_
      rintro _ _ ⟨_, ⟨v119_1, S119_1, rfl, hl_v119_1, rfl⟩, rfl⟩
      refine F.qn rfl rfl rfl rfl (r_move rfl) ?_
      refine F.qn rfl rfl rfl rfl (r_extract rfl rfl) ?_
      refine F.qn rfl rfl rfl rfl (r_extract rfl rfl) ?_
      refine F.qn rfl rfl rfl rfl (r_assign rfl) ?_
      refine F.qn rfl rfl rfl rfl (r_assign rfl) ?_
      refine F.nil (Nrm.seq (Tri.seq ?_))
      obtain ⟨y130, hE_3, h⟩ := bind_some h
      refine Tri.cut (fun e' C' => e' = [(0, va0), (3, .pointer (some ⟨b3_1, 0, none⟩)), (4, v50_4), (5, v56_1), (6, .bool t56_2), (13, .pointer (some ⟨b13_1, 0, none⟩)), (14, .int .i64 t104_5), (15, .int .i64 t104_6), (16, v112_1), (17, .bool t112_2), (130, .bool y130)] ∧ C' = Sep w noM [R.box b13_1 66 [.int .i64 t104_1, v104_1, v104_2, v104_3], R.box b3_1 66 [.int .i64 t50_1, v50_1, v50_2, v50_3], R.sl S104_1 v104_1 (t104_2 : List (Int × Int × Int)), R.sl S104_2 v104_2 (t104_3 : List (Int)), R.sl S104_3 v104_3 (t104_4 : List (Int)), R.sl S112_1 v112_1 (t112_1 : List (Int)), R.sl S50_1 v50_1 (t50_2 : List (Int × Int × Int)), R.sl S50_2 v50_2 (t50_3 : List (Int)), R.sl S50_3 v50_3 (t50_4 : List (Int)), R.sl S50_4 v50_4 (t50_5 : List (Int)), R.sl S56_1 v56_1 (t56_1 : List (Int))]) ?_ (fun hj_3 => ?_)
      ·rintro _ _ ⟨rfl, rfl⟩
       refine Nrm.seq (Tri.cond (b := y130) rfl (fun g_4 => ?_) (fun g_4 => ?_))
       ·replace h := if_tt g_4 h
        refine Tri.seq (Tri.reg (l := [0]) rfl ?_)
        refine F.qn rfl rfl rfl rfl (r_assign rfl) ?_
        refine F.nil (Nrm.seq (Tri.ret ?_))
        refine Rtn.then ?_
        cases h
        exact Rtn.body (.tmp rfl .nil) (fun w hw => ⟨rfl, hw.ext⟩)
       ·replace h := if_ff g_4 h
        refine Tri.skip (Nrm.seq (Tri.seq ?_))
        obtain ⟨⟨t135_1, t135_2⟩, h135, h⟩ := bind_some h
        refine Tri.reg (l := [0, 1, 2, 3, 4, 5, 6, 7, 8]) rfl ?_
        refine F.qn rfl rfl rfl rfl (r_loadA ta66 ti66 rfl rfl (fun w hw => (box_cells (i := 0) rfl w hw))) ?_
        refine F.qn rfl rfl rfl rfl (r_move rfl) ?_
        refine F.qn rfl rfl rfl rfl (r_move rfl) ?_
        refine F.qcn rfl rfl rfl rfl (q_callF (xs := _) rfl ok57 rfl rfl (fun w hw => impl_IsGood.ok h135 w ((rd_sl (i := 2) rfl) w hw) ((rd_sl (i := 3) rfl) w hw) ((rd_sl (i := 4) rfl) w hw))) ?_
        refine F.qn rfl rfl rfl rfl (r_move rfl) ?_
        refine F.qn rfl rfl rfl rfl (r_extract rfl rfl) ?_
        refine F.qn rfl rfl rfl rfl (r_extract rfl rfl) ?_
        refine F.qn rfl rfl rfl rfl (r_assign rfl) ?_
        refine F.qn rfl rfl rfl rfl (r_assign rfl) ?_
        refine F.nil (Nrm.seq (Tri.seq (Tri.seq ?_)))
        obtain ⟨⟨t142_1, t142_2⟩, h142, h⟩ := bind_some h
        refine Tri.reg (l := [0, 1, 2, 3, 4, 5, 6, 7, 8]) rfl ?_
        refine F.qn rfl rfl rfl rfl (r_loadA ta66 ti66 rfl rfl (fun w hw => (box_cells (i := 0) rfl w hw))) ?_
        refine F.qn rfl rfl rfl rfl (r_move rfl) ?_
        refine F.qn rfl rfl rfl rfl (r_move rfl) ?_
        refine F.qcn rfl rfl rfl rfl (q_callF (xs := _) rfl ok58 rfl rfl (fun w hw => spec_IsGood.ok h142 w ((rd_sl (i := 2) rfl) w hw) ((rd_sl (i := 3) rfl) w hw) ((rd_sl (i := 4) rfl) w hw))) ?_
        refine F.qn rfl rfl rfl rfl (r_move rfl) ?_
        refine F.qn rfl rfl rfl rfl (r_extract rfl rfl) ?_
        refine F.qn rfl rfl rfl rfl (r_extract rfl rfl) ?_
        refine F.qn rfl rfl rfl rfl (r_assign rfl) ?_
        refine F.qn rfl rfl rfl rfl (r_assign rfl) ?_
        refine F.nil (Nrm.seq (Tri.seq ?_))
        obtain ⟨y157, hE_4, h⟩ := bind_some h
        refine Tri.cut (fun e' C' => e' = [(0, va0), (3, .pointer (some ⟨b3_1, 0, none⟩)), (4, v50_4), (5, v56_1), (6, .bool t56_2), (13, .pointer (some ⟨b13_1, 0, none⟩)), (14, .int .i64 t104_5), (15, .int .i64 t104_6), (16, v112_1), (20, .bool t135_1), (21, .bool t135_2), (157, .bool y157)] ∧ C' = Sep w noM [R.box b13_1 66 [.int .i64 t104_1, v104_1, v104_2, v104_3], R.box b3_1 66 [.int .i64 t50_1, v50_1, v50_2, v50_3], R.sl S104_1 v104_1 (t104_2 : List (Int × Int × Int)), R.sl S104_2 v104_2 (t104_3 : List (Int)), R.sl S104_3 v104_3 (t104_4 : List (Int)), R.sl S112_1 v112_1 (t112_1 : List (Int)), R.sl S50_1 v50_1 (t50_2 : List (Int × Int × Int)), R.sl S50_2 v50_2 (t50_3 : List (Int)), R.sl S50_3 v50_3 (t50_4 : List (Int)), R.sl S50_4 v50_4 (t50_5 : List (Int)), R.sl S56_1 v56_1 (t56_1 : List (Int))]) ?_ (fun hj_4 => ?_)
        ·rintro _ _ ⟨rfl, rfl⟩
         refine Nrm.seq (Tri.cond (b := y157) rfl (fun g_5 => ?_) (fun g_5 => ?_))
         ·replace h := if_tt g_5 h
          refine Tri.seq (Tri.reg (l := [0]) rfl ?_)
          refine F.qn rfl rfl rfl rfl (r_assign rfl) ?_
          refine F.nil (Nrm.seq (Tri.ret ?_))
          refine Rtn.then ?_
          cases h
          exact Rtn.body (.tmp rfl .nil) (fun w hw => ⟨rfl, hw.ext⟩)
         ·replace h := if_ff g_5 h
          refine Tri.skip (Nrm.seq (Tri.seq ?_))
          obtain ⟨⟨t159_1, t159_2, t159_3, t159_4⟩, h159, h⟩ := bind_some h
          refine Tri.reg (l := [0, 1, 2, 3]) rfl ?_
          refine F.qn rfl rfl rfl rfl (r_move rfl) ?_
          refine F.mn rfl rfl rfl rfl (m_callF (xs := _) rfl ok59 rfl rfl (fun w hw => spec_DrawTrapFreeSets.ok h159 w ((fun _ hw => hr_a0.sep hw) w hw))) ?_
          rintro _ _ ⟨_, ⟨v159_1, S159_1, v159_2, S159_2, v159_3, S159_3, rfl, hl_v159_1, hl_v159_2, hl_v159_3, rfl⟩, rfl⟩
          refine F.mn rfl rfl rfl rfl (m_alloc ti66) ?_
          rintro _ _ ⟨b24_1, rfl, rfl⟩
          refine F.ef0 rfl rfl (wanted_none rfl) (d_storeG0 (i := 0) (cs2 := [.int .i64 t159_1, v159_1, v159_2, v159_3]) ti66 rfl rfl rfl rfl rfl (Nat.le_of_ble_eq_true rfl) (lf_cons rfl (lf_cons (sl_leaf hl_v159_1) (lf_cons (sl_leaf hl_v159_2) (lf_cons (sl_leaf hl_v159_3) lf_nil))))) ?_
          rintro _ _ ⟨rfl, rfl⟩
          refine F.nil (Nrm.seq (Tri.seq ?_))
          obtain ⟨⟨t162_1, t162_2⟩, h162, h⟩ := bind_some h
          refine Tri.reg (l := [0, 1, 2, 3, 4, 5, 6]) rfl ?_
          refine F.qn rfl rfl rfl rfl (r_loadA ta66 ti66 rfl rfl (fun w hw => (box_cells (i := 0) rfl w hw))) ?_
          refine F.mn rfl rfl rfl rfl (m_callF (xs := _) rfl ok60 rfl rfl (fun w hw => impl_TrapFreeSets.ok h162 w ((rd_sl (i := 1) rfl) w hw) ((rd_sl (i := 2) rfl) w hw) ((rd_sl (i := 3) rfl) w hw))) ?_
          rintro _ _ ⟨_, ⟨v162_1, S162_1, rfl, hl_v162_1, rfl⟩, rfl⟩
          refine F.qn rfl rfl rfl rfl (r_move rfl) ?_
          refine F.qn rfl rfl rfl rfl (r_extract rfl rfl) ?_
          refine F.qn rfl rfl rfl rfl (r_extract rfl rfl) ?_
          refine F.qn rfl rfl rfl rfl (r_assign rfl) ?_
          refine F.qn rfl rfl rfl rfl (r_assign rfl) ?_
          refine F.nil (Nrm.seq (Tri.seq (Tri.seq ?_)))
          obtain ⟨⟨t167_1, t167_2⟩, h167, h⟩ := bind_some h
          refine Tri.reg (l := [0, 1, 2, 3, 4, 5, 6]) rfl ?_
          refine F.qn rfl rfl rfl rfl (r_loadA ta66 ti66 rfl rfl (fun w hw => (box_cells (i := 1) rfl w hw))) ?_
          refine F.mn rfl rfl rfl rfl (m_callF (xs := _) rfl ok61 rfl rfl (fun w hw => spec_TrapFreeSets.ok h167 w ((rd_sl (i := 2) rfl) w hw) ((rd_sl (i := 3) rfl) w hw) ((rd_sl (i := 4) rfl) w hw))) ?_
          rintro _ _ ⟨_, ⟨v167_1, S167_1, rfl, hl_v167_1, rfl⟩, rfl⟩
          refine F.qn rfl rfl rfl rfl (r_move rfl) ?_
          refine F.qn rfl rfl rfl rfl (r_extract rfl rfl) ?_
          refine F.qn rfl rfl rfl rfl (r_extract rfl rfl) ?_
          refine F.qn rfl rfl rfl rfl (r_assign rfl) ?_
          refine F.qn rfl rfl rfl rfl (r_assign rfl) ?_
          refine F.nil (Nrm.seq (Tri.seq ?_))
          obtain ⟨y178, hE_5, h⟩ := bind_some h
          refine Tri.cut (fun e' C' => e' = [(3, .pointer (some ⟨b3_1, 0, none⟩)), (4, v50_4), (5, v56_1), (6, .bool t56_2), (13, .pointer (some ⟨b13_1, 0, none⟩)), (14, .int .i64 t104_5), (15, .int .i64 t104_6), (16, v112_1), (20, .bool t135_1), (21, .bool t135_2), (24, .pointer (some ⟨b24_1, 0, none⟩)), (25, v162_1), (26, .bool t162_2), (178, .bool y178)] ∧ C' = Sep w noM [R.box b24_1 66 [.int .i64 t159_1, v159_1, v159_2, v159_3], R.box b13_1 66 [.int .i64 t104_1, v104_1, v104_2, v104_3], R.box b3_1 66 [.int .i64 t50_1, v50_1, v50_2, v50_3], R.sl S104_1 v104_1 (t104_2 : List (Int × Int × Int)), R.sl S104_2 v104_2 (t104_3 : List (Int)), R.sl S104_3 v104_3 (t104_4 : List (Int)), R.sl S112_1 v112_1 (t112_1 : List (Int)), R.sl S159_1 v159_1 (t159_2 : List (Int × Int × Int)), R.sl S159_2 v159_2 (t159_3 : List (Int)), R.sl S159_3 v159_3 (t159_4 : List (Int)), R.sl S162_1 v162_1 (t162_1 : List (Int)), R.sl S50_1 v50_1 (t50_2 : List (Int × Int × Int)), R.sl S50_2 v50_2 (t50_3 : List (Int)), R.sl S50_3 v50_3 (t50_4 : List (Int)), R.sl S50_4 v50_4 (t50_5 : List (Int)), R.sl S56_1 v56_1 (t56_1 : List (Int))]) ?_ (fun hj_5 => ?_)
          ·rintro _ _ ⟨rfl, rfl⟩
           refine Nrm.seq (Tri.cond (b := y178) rfl (fun g_6 => ?_) (fun g_6 => ?_))
           ·replace h := if_tt g_6 h
            refine Tri.seq (Tri.reg (l := [0]) rfl ?_)
            refine F.qn rfl rfl rfl rfl (r_assign rfl) ?_
            refine F.nil (Nrm.seq (Tri.ret ?_))
            refine Rtn.then ?_
            cases h
            exact Rtn.body (.tmp rfl .nil) (fun w hw => ⟨rfl, hw.ext⟩)
           ·replace h := if_ff g_6 h
            refine Tri.skip (Nrm.seq (Tri.seq (Tri.seq (Tri.reg (l := [0]) rfl ?_))))
            refine F.qn rfl rfl rfl rfl (r_move rfl) ?_
            refine F.nil (Nrm.seq (Tri.cond (b := t135_2) rfl (fun g_7 => ?_) (fun g_7 => ?_)))
            ·replace h := if_tt g_7 h
             refine Tri.seq (Tri.reg (l := [0, 1, 2, 3, 4, 5, 6]) rfl ?_)
             refine F.qn rfl rfl rfl rfl (r_move rfl) ?_
             refine F.qn rfl rfl rfl rfl (r_fieldAddr tf66_0 rfl) ?_
             refine F.qn rfl rfl rfl rfl (r_fieldAddr tf27_0 rfl) ?_
             refine F.qn rfl rfl rfl rfl (r_load ta3 rfl (fun w hw => cell_2 (box_cells (i := 1) rfl w hw) rfl)) ?_
             refine F.qn rfl rfl rfl rfl (r_sub rfl rfl) ?_
             refine F.qn rfl rfl rfl rfl (r_eql rfl rfl) ?_
             refine F.qn rfl rfl rfl rfl (r_assign rfl) ?_
             refine F.nil (Nrm.seq (Tri.seq (Tri.seq (Tri.reg (l := [0]) rfl ?_))))
             refine F.qn rfl rfl rfl rfl (r_assign rfl) ?_
             refine F.nil (Nrm.seq ?_)
             obtain ⟨s0, hE_6, h⟩ := bind_some h
             refine Tri.block ?_
             refine Tri.only [3, 4, 5, 6, 13, 15, 16, 20, 24, 25, 26, 29, 30] rfl ?_
             refine Tri.pick [0, 1, 2, 3, 4, 5, 6, 7, 8, 9, 10, 11, 12, 13, 14, 15] rfl rfl ?_
             refine Tri.rounds (fun n e' C' => ∃ (x29' : Bool) (x30' : Int), laws_FnTrapSteps.l0 k t104_1 t104_2 t104_3 t104_4 t104_6 t112_1 n x29' x30' = some s0 ∧ e' = [(3, .pointer (some ⟨b3_1, 0, none⟩)), (4, v50_4), (5, v56_1), (6, .bool t56_2), (13, .pointer (some ⟨b13_1, 0, none⟩)), (15, .int .i64 t104_6), (16, v112_1), (20, .bool t135_1), (24, .pointer (some ⟨b24_1, 0, none⟩)), (25, v162_1), (26, .bool t162_2), (29, .bool x29'), (30, .int .i64 x30')] ∧ C' = Sep w noM [R.box b24_1 66 [.int .i64 t159_1, v159_1, v159_2, v159_3], R.box b13_1 66 [.int .i64 t104_1, v104_1, v104_2, v104_3], R.box b3_1 66 [.int .i64 t50_1, v50_1, v50_2, v50_3], R.sl S104_1 v104_1 (t104_2 : List (Int × Int × Int)), R.sl S104_2 v104_2 (t104_3 : List (Int)), R.sl S104_3 v104_3 (t104_4 : List (Int)), R.sl S112_1 v112_1 (t112_1 : List (Int)), R.sl S159_1 v159_1 (t159_2 : List (Int × Int × Int)), R.sl S159_2 v159_2 (t159_3 : List (Int)), R.sl S159_3 v159_3 (t159_4 : List (Int)), R.sl S162_1 v162_1 (t162_1 : List (Int)), R.sl S50_1 v50_1 (t50_2 : List (Int × Int × Int)), R.sl S50_2 v50_2 (t50_3 : List (Int)), R.sl S50_3 v50_3 (t50_4 : List (Int)), R.sl S50_4 v50_4 (t50_5 : List (Int)), R.sl S56_1 v56_1 (t56_1 : List (Int))]) k ?_ ?_ ?_
             ·exact ⟨t104_5 == (w64 (t104_1 - 1)), 0, hE_6, rfl, rfl⟩
             ·rintro _ _ ⟨_, _, hE_6, _⟩
              rw [laws_FnTrapSteps.l0.eq_1] at hE_6; cases hE_6
             ·rintro n_1 _ _ ⟨x29, x30, hE_6, rfl, rfl⟩ ih_1
              rw [laws_FnTrapSteps.l0.eq_2] at hE_6
              refine Tri.seq (Tri.seq (Tri.reg (l := [0, 1, 2, 3]) rfl ?_))
              refine F.qn rfl rfl rfl rfl (r_move rfl) ?_
              refine F.qn rfl rfl rfl rfl (r_move rfl) ?_
              refine F.qn rfl rfl rfl rfl (r_len Try.underlying25 rfl hl_v112_1) ?_
              refine F.qn rfl rfl rfl rfl (r_lss rfl rfl) ?_
              refine F.nil (Nrm.seq (Tri.cond (b := decide (x30 < (t112_1.length : Int))) rfl (fun g_8 => ?_) (fun g_8 => ?_)))
              ·replace hE_6 := if_tt g_8 hE_6
               refine Tri.skip (Nrm.seq (Tri.seq (Tri.block ?_)))
               refine Tri.seq ?_
               obtain ⟨t196, h196, hE_6⟩ := bind_some hE_6
               obtain ⟨t204, h204, hE_6⟩ := bind_some hE_6
               obtain ⟨t206, h206, hE_6⟩ := bind_some hE_6
               obtain ⟨⟨t209_1, t209_2⟩, h209, hE_6⟩ := bind_some hE_6
               refine Tri.drawA mixedT Sep.up [(0, true), (1, true), (2, true), (3, true), (4, true), (5, true), (6, true), (7, true), (8, true), (9, true), (10, true), (11, true), (12, true), (13, true), (14, true), (15, true), (16, true), (17, true), (18, true), (19, true), (20, true), (21, true)] [] (by kernel_rfl) ?_
               refine S.qn rfl rfl rfl rfl (r_loadA ta66 ti66 rfl rfl (fun w hw => (box_cells (i := 1) rfl w hw))) ?_
               refine S.qn rfl rfl rfl rfl (r_move rfl) ?_
               refine S.qn rfl rfl rfl rfl (r_move rfl) ?_
               refine S.qn rfl rfl rfl rfl (r_indexAddrS Try.underlying25 ti3 rfl hl_v112_1 rfl (rdl_some h196).1 (rdl_some h196).2.1) ?_
               refine S.qn rfl rfl rfl rfl (r_load ta3 rfl (fun w hw => cell_0 (Rd.flat ((rd_sl (i := 6) rfl) w hw) (rdl_some h196).2.2) rfl)) ?_
               refine S.qn rfl rfl rfl rfl (r_move rfl) ?_
               refine S.qn rfl rfl rfl rfl (r_fieldAddr tf66_0 rfl) ?_
               refine S.qn rfl rfl rfl rfl (r_fieldAddr tf27_2 rfl) ?_
               refine S.qn rfl rfl rfl rfl (r_load ta25 rfl (fun w hw => cell_2 (box_cells (i := 1) rfl w hw) rfl)) ?_
               refine S.qn rfl rfl rfl rfl (r_move rfl) ?_
               refine S.qn rfl rfl rfl rfl (r_move rfl) ?_
               refine S.qn rfl rfl rfl rfl (r_indexAddrS Try.underlying25 ti3 rfl hl_v112_1 rfl (rdl_some h204).1 (rdl_some h204).2.1) ?_
               refine S.qn rfl rfl rfl rfl (r_load ta3 rfl (fun w hw => cell_0 (Rd.flat ((rd_sl (i := 6) rfl) w hw) (rdl_some h204).2.2) rfl)) ?_
               refine S.qn rfl rfl rfl rfl (r_indexAddrS Try.underlying25 ti3 rfl hl_v104_2 rfl (rdl_some h206).1 (rdl_some h206).2.1) ?_
               refine S.qn rfl rfl rfl rfl (r_load ta3 rfl (fun w hw => cell_0 (Rd.flat ((rd_sl (i := 4) rfl) w hw) (rdl_some h206).2.2) rfl)) ?_
               refine S.qn rfl rfl rfl rfl (r_or rfl rfl) ?_
               refine S.qcn rfl rfl rfl rfl (q_callF (xs := _) rfl ok57 rfl rfl (fun w hw => impl_IsGood.ok h209 w ((rd_sl (i := 3) rfl) w hw) ((rd_sl (i := 4) rfl) w hw) ((rd_sl (i := 5) rfl) w hw))) ?_
               refine S.qn rfl rfl rfl rfl (r_move rfl) ?_
               refine S.qn rfl rfl rfl rfl (r_extract rfl rfl) ?_
               refine S.qn rfl rfl rfl rfl (r_extract rfl rfl) ?_
               refine S.qn rfl rfl rfl rfl (r_assign rfl) ?_
               refine S.qn rfl rfl rfl rfl (r_assign rfl) ?_
               refine S.nil (F.nil (Nrm.seq (Tri.seq (Tri.seq (Tri.reg (l := [0, 1]) rfl ?_)))))
               refine F.qn rfl rfl rfl rfl (r_move rfl) ?_
               refine F.qn rfl rfl rfl rfl (r_not rfl) ?_
               refine F.nil (Nrm.seq (Tri.cond (b := !t209_2) rfl (fun g_9 => ?_) (fun g_9 => ?_)))
               ·replace hE_6 := if_tt g_9 hE_6
                refine Tri.seq (Tri.reg (l := [0]) rfl ?_)
                refine F.qn rfl rfl rfl rfl (r_assign rfl) ?_
                refine F.nil (Nrm.seq (Tri.ret ?_))
                refine Rtn.then ?_
                refine Rtn.block ?_
                refine Rtn.then ?_
                refine Rtn.then ?_
                refine Rtn.block ?_
                refine Rtn.then ?_
                refine Rtn.then ?_
                cases hE_6
                replace h := Lr_inr h
                cases h
                exact Rtn.body (.tmp rfl .nil) (fun w hw => ⟨rfl, hw.ext⟩)
               ·replace hE_6 := if_ff g_9 hE_6
                refine Tri.skip (Nrm.seq ?_)
                obtain ⟨y29, hE_7, hE_6⟩ := bind_some hE_6
                refine Tri.cut (fun e' C' => e' = [(3, .pointer (some ⟨b3_1, 0, none⟩)), (4, v50_4), (5, v56_1), (6, .bool t56_2), (13, .pointer (some ⟨b13_1, 0, none⟩)), (15, .int .i64 t104_6), (16, v112_1), (20, .bool t135_1), (24, .pointer (some ⟨b24_1, 0, none⟩)), (25, v162_1), (26, .bool t162_2), (29, .bool y29), (30, .int .i64 x30)] ∧ C' = Sep w noM [R.box b24_1 66 [.int .i64 t159_1, v159_1, v159_2, v159_3], R.box b13_1 66 [.int .i64 t104_1, v104_1, v104_2, v104_3], R.box b3_1 66 [.int .i64 t50_1, v50_1, v50_2, v50_3], R.sl S104_1 v104_1 (t104_2 : List (Int × Int × Int)), R.sl S104_2 v104_2 (t104_3 : List (Int)), R.sl S104_3 v104_3 (t104_4 : List (Int)), R.sl S112_1 v112_1 (t112_1 : List (Int)), R.sl S159_1 v159_1 (t159_2 : List (Int × Int × Int)), R.sl S159_2 v159_2 (t159_3 : List (Int)), R.sl S159_3 v159_3 (t159_4 : List (Int)), R.sl S162_1 v162_1 (t162_1 : List (Int)), R.sl S50_1 v50_1 (t50_2 : List (Int × Int × Int)), R.sl S50_2 v50_2 (t50_3 : List (Int)), R.sl S50_3 v50_3 (t50_4 : List (Int)), R.sl S50_4 v50_4 (t50_5 : List (Int)), R.sl S56_1 v56_1 (t56_1 : List (Int))]) ?_ (fun hj_6 => ?_)
                ·rintro _ _ ⟨rfl, rfl⟩
                 refine Nrm.block ?_
                 refine Nrm.seq (Tri.reg (l := [0, 1, 2]) rfl ?_)
                 refine F.qn rfl rfl rfl rfl (r_move rfl) ?_
                 refine F.qn rfl rfl rfl rfl (r_add rfl rfl) ?_
                 refine F.qn rfl rfl rfl rfl (r_assign rfl) ?_
                 refine F.nil (Nrm.round ?_)
                 refine Rnd.only [3, 4, 5, 6, 13, 15, 16, 20, 24, 25, 26, 29, 30] rfl ?_
                 refine Rnd.pick [0, 1, 2, 3, 4, 5, 6, 7, 8, 9, 10, 11, 12, 13, 14, 15] rfl rfl ?_
                 exact ih_1 _ _ ⟨y29, w64 (x30 + 1), hE_6, rfl, rfl⟩
                ·rcases Bool.eq_false_or_eq_true (x29) with g215 | g215
                 ·replace hE_7 := if_tt g215 hE_7
                  refine Tri.reg (l := [0, 1, 2, 3, 4]) rfl ?_
                  refine F.qn rfl rfl rfl rfl (r_move rfl) ?_
                  refine F.qn rfl rfl rfl rfl (r_move rfl) ?_
                  refine F.sk rfl rfl rfl (wf rfl rfl rfl g215) ?_
                  refine F.qn rfl rfl rfl rfl (r_pick rfl rfl g215) ?_
                  refine F.qn rfl rfl rfl rfl (r_assign rfl) ?_
                  refine F.nil ?_
                  cases hE_7
                  refine Nrm.only [3, 4, 5, 6, 13, 15, 16, 20, 24, 25, 26, 29, 30] rfl ?_
                  refine Nrm.pick [0, 1, 2, 3, 4, 5, 6, 7, 8, 9, 10, 11, 12, 13, 14, 15] rfl rfl ?_
                  exact hj_6 _ _ ⟨rfl, rfl⟩
                 ·replace hE_7 := if_ff g215 hE_7
                  refine Tri.reg (l := [0, 1, 2, 3, 4]) rfl ?_
                  refine F.qn rfl rfl rfl rfl (r_move rfl) ?_
                  refine F.qn rfl rfl rfl rfl (r_move rfl) ?_
                  refine F.qg rfl rfl rfl rfl rfl rfl g215 (r_move rfl) ?_
                  refine F.qn rfl rfl rfl rfl (r_pickf rfl rfl g215) ?_
                  refine F.qn rfl rfl rfl rfl (r_assign rfl) ?_
                  refine F.nil ?_
                  cases hE_7
                  refine Nrm.only [3, 4, 5, 6, 13, 15, 16, 20, 24, 25, 26, 29, 30] rfl ?_
                  refine Nrm.pick [0, 1, 2, 3, 4, 5, 6, 7, 8, 9, 10, 11, 12, 13, 14, 15] rfl rfl ?_
                  exact hj_6 _ _ ⟨rfl, rfl⟩
              ·replace hE_6 := if_ff g_8 hE_6
               refine Tri.exit ?_
               refine Exi.then ?_
               refine Exi.then ?_
               refine Exi.same ?_
               cases hE_6
               replace h := Lr_inl h
               refine Nrm.seq (Tri.seq (Tri.reg (l := [0, 1, 2]) rfl ?_))
               refine F.qn rfl rfl rfl rfl (r_move rfl) ?_
               refine F.qn rfl rfl rfl rfl (r_move rfl) ?_
               refine F.qn rfl rfl rfl rfl (r_neqB Try.underlying4 rfl rfl) ?_
               refine F.nil (Nrm.seq (Tri.cond (b := x29 != t135_1) rfl (fun g_10 => ?_) (fun g_10 => ?_)))
               ·replace h := if_tt g_10 h
                refine Tri.seq (Tri.reg (l := [0]) rfl ?_)
                refine F.qn rfl rfl rfl rfl (r_assign rfl) ?_
                refine F.nil (Nrm.seq (Tri.ret ?_))
                refine Rtn.then ?_
                cases h
                exact Rtn.body (.tmp rfl .nil) (fun w hw => ⟨rfl, hw.ext⟩)
               ·replace h := if_ff g_10 h
                refine Tri.skip (Nrm.seq (Tri.seq (Tri.seq (Tri.reg (l := [0]) rfl ?_))))
                refine F.qn rfl rfl rfl rfl (r_move rfl) ?_
                refine F.nil (Nrm.seq (Tri.cond (b := t162_2) rfl (fun g_11 => ?_) (fun g_11 => ?_)))
                ·replace h := if_tt g_11 h
                 refine Tri.seq ?_
                 obtain ⟨⟨t224_1, t224_2, t224_3⟩, h224, h⟩ := bind_some h
                 refine Tri.reg (l := [0, 1, 2, 3, 4, 5, 6, 7, 8]) rfl ?_
                 refine F.qn rfl rfl rfl rfl (r_loadA ta66 ti66 rfl rfl (fun w hw => (box_cells (i := 0) rfl w hw))) ?_
                 refine F.qcn rfl rfl rfl rfl (q_callF (xs := _) rfl ok62 rfl rfl (fun w hw => impl_CountMet.ok h224 w ((rd_sl (i := 7) rfl) w hw) ((rd_sl (i := 8) rfl) w hw) ((rd_sl (i := 9) rfl) w hw))) ?_
                 refine F.qn rfl rfl rfl rfl (r_move rfl) ?_
                 iterate 3 refine F.qn rfl rfl rfl rfl (r_extract rfl rfl) ?_
                 iterate 3 refine F.qn rfl rfl rfl rfl (r_assign rfl) ?_
                 refine F.nil (Nrm.seq (Tri.seq ?_))
                 obtain ⟨y236, hE_8, h⟩ := bind_some h
                 refine Tri.cut (fun e' C' => e' = [(3, .pointer (some ⟨b3_1, 0, none⟩)), (4, v50_4), (5, v56_1), (6, .bool t56_2), (236, .bool y236)] ∧ C' = Sep w noM [R.box b3_1 66 [.int .i64 t50_1, v50_1, v50_2, v50_3], R.sl S50_1 v50_1 (t50_2 : List (Int × Int × Int)), R.sl S50_2 v50_2 (t50_3 : List (Int)), R.sl S50_3 v50_3 (t50_4 : List (Int)), R.sl S50_4 v50_4 (t50_5 : List (Int)), R.sl S56_1 v56_1 (t56_1 : List (Int))]) ?_ (fun hj_7 => ?_)
                 ·rintro _ _ ⟨rfl, rfl⟩
                  refine Nrm.seq (Tri.cond (b := y236) rfl (fun g_12 => ?_) (fun g_12 => ?_))
                  ·replace h := if_tt g_12 h
                   refine Tri.seq (Tri.reg (l := [0]) rfl ?_)
                   refine F.qn rfl rfl rfl rfl (r_assign rfl) ?_
                   refine F.nil (Nrm.seq (Tri.ret ?_))
                   refine Rtn.then ?_
                   cases h
                   exact Rtn.body (.tmp rfl .nil) (fun w hw => ⟨rfl, hw.ext⟩)
                  ·replace h := if_ff g_12 h
                   refine Tri.skip (Nrm.seq (Tri.seq (Tri.seq (Tri.reg (l := [0, 1]) rfl ?_))))
                   refine F.qn rfl rfl rfl rfl (r_move rfl) ?_
                   refine F.qn rfl rfl rfl rfl (r_not rfl) ?_
                   refine F.nil (Nrm.seq (Tri.cond (b := !t56_2) rfl (fun g_13 => ?_) (fun g_13 => ?_)))
                   ·replace h := if_tt g_13 h
                    refine Tri.seq (Tri.reg (l := [0]) rfl ?_)
                    refine F.qn rfl rfl rfl rfl (r_assign rfl) ?_
                    refine F.nil (Nrm.seq (Tri.ret ?_))
                    refine Rtn.then ?_
                    cases h
                    exact Rtn.body (.tmp rfl .nil) (fun w hw => ⟨rfl, hw.ext⟩)
                   ·replace h := if_ff g_13 h
                    refine Tri.skip (Nrm.seq (Tri.seq ?_))
                    obtain ⟨⟨t242_1, t242_2, t242_3⟩, h242, h⟩ := bind_some h
                    refine Tri.reg (l := [0, 1, 2, 3, 4, 5, 6, 7, 8, 9]) rfl ?_
                    refine F.qn rfl rfl rfl rfl (r_loadA ta66 ti66 rfl rfl (fun w hw => (box_cells (i := 0) rfl w hw))) ?_
                    refine F.qn rfl rfl rfl rfl (r_move rfl) ?_
                    refine F.qcn rfl rfl rfl rfl (q_callF (xs := _) rfl ok64 rfl rfl (fun w hw => impl_StateBehind.ok h242 w ((rd_sl (i := 1) rfl) w hw) ((rd_sl (i := 2) rfl) w hw) ((rd_sl (i := 3) rfl) w hw) ((rd_sl (i := 4) rfl) w hw))) ?_
                    refine F.qn rfl rfl rfl rfl (r_move rfl) ?_
                    iterate 3 refine F.qn rfl rfl rfl rfl (r_extract rfl rfl) ?_
                    iterate 3 refine F.qn rfl rfl rfl rfl (r_assign rfl) ?_
                    refine F.nil (Nrm.seq (Tri.seq ?_))
                    obtain ⟨⟨t250_1, t250_2⟩, h250, h⟩ := bind_some h
                    refine Tri.reg (l := [0, 1, 2, 3, 4, 5, 6, 7, 8]) rfl ?_
                    refine F.qn rfl rfl rfl rfl (r_fieldAddr tf66_0 rfl) ?_
                    refine F.qn rfl rfl rfl rfl (r_loadA ta27 ti27 rfl rfl (fun w hw => cells_1 (cs' := [.int .i64 t50_1, v50_1, v50_2]) (box_cells (i := 0) rfl w hw) rfl)) ?_
                    refine F.qn rfl rfl rfl rfl (r_move rfl) ?_
                    refine F.qcn rfl rfl rfl rfl (q_callF (xs := _) rfl ok65 rfl rfl (fun w hw => impl_IsKeyWalk.ok h250 w ((rd_sl (i := 1) rfl) w hw) ((rd_sl (i := 2) rfl) w hw) ((rd_sl (i := 4) rfl) w hw))) ?_
                    refine F.qn rfl rfl rfl rfl (r_move rfl) ?_
                    refine F.qn rfl rfl rfl rfl (r_extract rfl rfl) ?_
                    refine F.qn rfl rfl rfl rfl (r_extract rfl rfl) ?_
                    refine F.qn rfl rfl rfl rfl (r_assign rfl) ?_
                    refine F.qn rfl rfl rfl rfl (r_assign rfl) ?_
                    refine F.nil (Nrm.seq (Tri.seq ?_))
                    obtain ⟨⟨t257_1, t257_2⟩, h257, h⟩ := bind_some h
                    refine Tri.reg (l := [0, 1, 2, 3, 4, 5, 6, 7, 8]) rfl ?_
                    refine F.qn rfl rfl rfl rfl (r_loadA ta66 ti66 rfl rfl (fun w hw => (box_cells (i := 0) rfl w hw))) ?_
                    refine F.qn rfl rfl rfl rfl (r_move rfl) ?_
                    refine F.qn rfl rfl rfl rfl (r_move rfl) ?_
                    refine F.mn rfl rfl rfl rfl (m_callF (xs := _) rfl ok55 rfl rfl (fun w hw => impl_StepsFrom.ok h257 w ((rd_sl (i := 1) rfl) w hw) ((rd_sl (i := 2) rfl) w hw) ((rd_sl (i := 3) rfl) w hw))) ?_
                    rintro _ _ ⟨_, ⟨v257_1, S257_1, rfl, hl_v257_1, rfl⟩, rfl⟩
                    refine F.qn rfl rfl rfl rfl (r_move rfl) ?_
                    refine F.qn rfl rfl rfl rfl (r_extract rfl rfl) ?_
                    refine F.qn rfl rfl rfl rfl (r_extract rfl rfl) ?_
                    refine F.qn rfl rfl rfl rfl (r_assign rfl) ?_
                    refine F.qn rfl rfl rfl rfl (r_assign rfl) ?_
                    refine F.nil (Nrm.seq (Tri.seq (Tri.seq ?_)))
                    obtain ⟨y273, hE_9, h⟩ := bind_some h
                    refine Tri.cut (fun e' C' => e' = [(3, .pointer (some ⟨b3_1, 0, none⟩)), (5, v56_1), (37, .int .i64 t242_2), (41, v257_1), (273, .bool y273)] ∧ C' = Sep w noM [R.box b3_1 66 [.int .i64 t50_1, v50_1, v50_2, v50_3], R.sl S257_1 v257_1 (t257_1 : List (Int)), R.sl S50_1 v50_1 (t50_2 : List (Int × Int × Int)), R.sl S50_2 v50_2 (t50_3 : List (Int)), R.sl S50_3 v50_3 (t50_4 : List (Int)), R.sl S56_1 v56_1 (t56_1 : List (Int))]) ?_ (fun hj_8 => ?_)
                    ·rintro _ _ ⟨rfl, rfl⟩
                     refine Nrm.seq (Tri.cond (b := y273) rfl (fun g_14 => ?_) (fun g_14 => ?_))
                     ·replace h := if_tt g_14 h
                      refine Tri.seq (Tri.reg (l := [0]) rfl ?_)
                      refine F.qn rfl rfl rfl rfl (r_assign rfl) ?_
                      refine F.nil (Nrm.seq (Tri.ret ?_))
                      refine Rtn.then ?_
                      cases h
                      exact Rtn.body (.tmp rfl .nil) (fun w hw => ⟨rfl, hw.ext⟩)
                     ·replace h := if_ff g_14 h
                      refine Tri.skip (Nrm.seq (Tri.seq (Tri.seq (Tri.reg (l := [0]) rfl ?_))))
                      refine F.qn rfl rfl rfl rfl (r_assign rfl) ?_
                      refine F.nil (Nrm.seq ?_)
                      obtain ⟨s1, hE_10, h⟩ := bind_some h
                      refine Tri.block ?_
                      refine Tri.only [3, 5, 37, 41, 43] rfl ?_
                      refine Tri.pick [0, 1, 2, 3, 4, 5] rfl rfl ?_
                      refine Tri.rounds (fun n e' C' => ∃ (x43' : Int), laws_FnTrapSteps.l1 k t50_1 t50_2 t50_3 t50_4 t56_1 t242_2 t257_1 n x43' = some s1 ∧ e' = [(3, .pointer (some ⟨b3_1, 0, none⟩)), (5, v56_1), (37, .int .i64 t242_2), (41, v257_1), (43, .int .i64 x43')] ∧ C' = Sep w noM [R.box b3_1 66 [.int .i64 t50_1, v50_1, v50_2, v50_3], R.sl S257_1 v257_1 (t257_1 : List (Int)), R.sl S50_1 v50_1 (t50_2 : List (Int × Int × Int)), R.sl S50_2 v50_2 (t50_3 : List (Int)), R.sl S50_3 v50_3 (t50_4 : List (Int)), R.sl S56_1 v56_1 (t56_1 : List (Int))]) k ?_ ?_ ?_
                      ·exact ⟨0, hE_10, rfl, rfl⟩
                      ·rintro _ _ ⟨_, hE_10, _⟩
                       rw [laws_FnTrapSteps.l1.eq_1] at hE_10; cases hE_10
                      ·rintro n_2 _ _ ⟨x43, hE_10, rfl, rfl⟩ ih_2
                       rw [laws_FnTrapSteps.l1.eq_2] at hE_10
                       refine Tri.seq (Tri.seq (Tri.reg (l := [0, 1, 2, 3]) rfl ?_))
                       refine F.qn rfl rfl rfl rfl (r_move rfl) ?_
                       refine F.qn rfl rfl rfl rfl (r_move rfl) ?_
                       refine F.qn rfl rfl rfl rfl (r_len Try.underlying25 rfl hl_v257_1) ?_
                       refine F.qn rfl rfl rfl rfl (r_lss rfl rfl) ?_
                       refine F.nil (Nrm.seq (Tri.cond (b := decide (x43 < (t257_1.length : Int))) rfl (fun g_15 => ?_) (fun g_15 => ?_)))
                       ·replace hE_10 := if_tt g_15 hE_10
                        refine Tri.skip (Nrm.seq (Tri.seq (Tri.block ?_)))
                        refine Tri.seq ?_
                        obtain ⟨t284, h284, hE_10⟩ := bind_some hE_10
                        obtain ⟨t292, h292, hE_10⟩ := bind_some hE_10
                        obtain ⟨t294, h294, hE_10⟩ := bind_some hE_10
                        obtain ⟨⟨t297_1, t297_2⟩, h297, hE_10⟩ := bind_some hE_10
                        refine Tri.drawA mixedT Sep.up [(0, true), (1, true), (2, true), (3, true), (4, true), (5, true), (6, true), (7, true), (8, true), (9, true), (10, true), (11, true), (12, true), (13, true), (14, true), (15, true), (16, true), (17, true), (18, true), (19, true), (20, true), (21, true)] [] (by kernel_rfl) ?_
                        refine S.qn rfl rfl rfl rfl (r_loadA ta66 ti66 rfl rfl (fun w hw => (box_cells (i := 0) rfl w hw))) ?_
                        refine S.qn rfl rfl rfl rfl (r_move rfl) ?_
                        refine S.qn rfl rfl rfl rfl (r_move rfl) ?_
                        refine S.qn rfl rfl rfl rfl (r_indexAddrS Try.underlying25 ti3 rfl hl_v257_1 rfl (rdl_some h284).1 (rdl_some h284).2.1) ?_
                        refine S.qn rfl rfl rfl rfl (r_load ta3 rfl (fun w hw => cell_0 (Rd.flat ((rd_sl (i := 1) rfl) w hw) (rdl_some h284).2.2) rfl)) ?_
                        refine S.qn rfl rfl rfl rfl (r_move rfl) ?_
                        refine S.qn rfl rfl rfl rfl (r_fieldAddr tf66_0 rfl) ?_
                        refine S.qn rfl rfl rfl rfl (r_fieldAddr tf27_2 rfl) ?_
                        refine S.qn rfl rfl rfl rfl (r_load ta25 rfl (fun w hw => cell_2 (box_cells (i := 0) rfl w hw) rfl)) ?_
                        refine S.qn rfl rfl rfl rfl (r_move rfl) ?_
                        refine S.qn rfl rfl rfl rfl (r_move rfl) ?_
                        refine S.qn rfl rfl rfl rfl (r_indexAddrS Try.underlying25 ti3 rfl hl_v257_1 rfl (rdl_some h292).1 (rdl_some h292).2.1) ?_
                        refine S.qn rfl rfl rfl rfl (r_load ta3 rfl (fun w hw => cell_0 (Rd.flat ((rd_sl (i := 1) rfl) w hw) (rdl_some h292).2.2) rfl)) ?_
                        refine S.qn rfl rfl rfl rfl (r_indexAddrS Try.underlying25 ti3 rfl hl_v50_2 rfl (rdl_some h294).1 (rdl_some h294).2.1) ?_
                        refine S.qn rfl rfl rfl rfl (r_load ta3 rfl (fun w hw => cell_0 (Rd.flat ((rd_sl (i := 3) rfl) w hw) (rdl_some h294).2.2) rfl)) ?_
                        refine S.qn rfl rfl rfl rfl (r_or rfl rfl) ?_
                        refine S.qcn rfl rfl rfl rfl (q_callF (xs := _) rfl ok57 rfl rfl (fun w hw => impl_IsGood.ok h297 w ((rd_sl (i := 2) rfl) w hw) ((rd_sl (i := 3) rfl) w hw) ((rd_sl (i := 4) rfl) w hw))) ?_
                        refine S.qn rfl rfl rfl rfl (r_move rfl) ?_
                        refine S.qn rfl rfl rfl rfl (r_extract rfl rfl) ?_
                        refine S.qn rfl rfl rfl rfl (r_extract rfl rfl) ?_
                        refine S.qn rfl rfl rfl rfl (r_assign rfl) ?_
                        refine S.qn rfl rfl rfl rfl (r_assign rfl) ?_
                        refine S.nil (F.nil (Nrm.seq (Tri.seq ?_)))
                        obtain ⟨y311, hE_11, hE_10⟩ := bind_some hE_10
                        refine Tri.cut (fun e' C' => e' = [(3, .pointer (some ⟨b3_1, 0, none⟩)), (5, v56_1), (37, .int .i64 t242_2), (41, v257_1), (43, .int .i64 x43), (311, .bool y311)] ∧ C' = Sep w noM [R.box b3_1 66 [.int .i64 t50_1, v50_1, v50_2, v50_3], R.sl S257_1 v257_1 (t257_1 : List (Int)), R.sl S50_1 v50_1 (t50_2 : List (Int × Int × Int)), R.sl S50_2 v50_2 (t50_3 : List (Int)), R.sl S50_3 v50_3 (t50_4 : List (Int)), R.sl S56_1 v56_1 (t56_1 : List (Int))]) ?_ (fun hj_9 => ?_)
                        ·rintro _ _ ⟨rfl, rfl⟩
                         refine Nrm.seq (Tri.cond (b := y311) rfl (fun g_16 => ?_) (fun g_16 => ?_))
                         ·replace hE_10 := if_tt g_16 hE_10
                          refine Tri.seq (Tri.reg (l := [0]) rfl ?_)
                          refine F.qn rfl rfl rfl rfl (r_assign rfl) ?_
                          refine F.nil (Nrm.seq (Tri.ret ?_))
                          refine Rtn.block ?_
                          refine Rtn.then ?_
                          refine Rtn.then ?_
                          refine Rtn.block ?_
                          refine Rtn.then ?_
                          cases hE_10
                          replace h := Lr_inr h
                          cases h
                          exact Rtn.body (.tmp rfl .nil) (fun w hw => ⟨rfl, hw.ext⟩)
                         ·replace hE_10 := if_ff g_16 hE_10
                          refine Tri.skip (Nrm.block ?_)
                          refine Nrm.seq (Tri.reg (l := [0, 1, 2]) rfl ?_)
                          refine F.qn rfl rfl rfl rfl (r_move rfl) ?_
                          refine F.qn rfl rfl rfl rfl (r_add rfl rfl) ?_
                          refine F.qn rfl rfl rfl rfl (r_assign rfl) ?_
                          refine F.nil (Nrm.round ?_)
                          refine Rnd.only [3, 5, 37, 41, 43] rfl ?_
                          refine Rnd.pick [0, 1, 2, 3, 4, 5] rfl rfl ?_
                          exact ih_2 _ _ ⟨w64 (x43 + 1), hE_10, rfl, rfl⟩
                        ·rcases Bool.eq_false_or_eq_true (!t297_2) with g302 | g302
                         ·replace hE_11 := if_tt g302 hE_11
                          refine Tri.reg (l := List.range 12) rfl ?_
                          refine F.qn rfl rfl rfl rfl (r_move rfl) ?_
                          refine F.qn rfl rfl rfl rfl (r_not rfl) ?_
                          refine F.qn rfl rfl rfl rfl (r_move rfl) ?_
                          iterate 8 refine F.sk rfl rfl rfl (wf rfl rfl rfl g302) ?_
                          refine F.qn rfl rfl rfl rfl (r_pick rfl rfl g302) ?_
                          refine F.nil ?_
                          cases hE_11
                          refine Nrm.only [3, 5, 37, 41, 43, 311] rfl ?_
                          refine Nrm.pick [0, 1, 2, 3, 4, 5] rfl rfl ?_
                          exact hj_9 _ _ ⟨rfl, rfl⟩
                         ·replace hE_11 := if_ff g302 hE_11
                          obtain ⟨t306, h306, hE_11⟩ := bind_some hE_11
                          obtain ⟨t308, h308, hE_11⟩ := bind_some hE_11
                          refine Tri.reg (l := List.range 12) rfl ?_
                          refine F.qn rfl rfl rfl rfl (r_move rfl) ?_
                          refine F.qn rfl rfl rfl rfl (r_not rfl) ?_
                          refine F.qn rfl rfl rfl rfl (r_move rfl) ?_
                          iterate 3 refine F.qg rfl rfl rfl rfl rfl rfl g302 (r_move rfl) ?_
                          refine F.qg rfl rfl rfl rfl rfl rfl g302 (r_indexAddrS Try.underlying25 ti3 rfl hl_v257_1 rfl (rdl_some h306).1 (rdl_some h306).2.1) ?_
                          refine F.qg rfl rfl rfl rfl rfl rfl g302 (r_load ta3 rfl (fun w hw => cell_0 (Rd.flat ((rd_sl (i := 1) rfl) w hw) (rdl_some h306).2.2) rfl)) ?_
                          refine F.qc rfl rfl rfl (wg rfl rfl rfl g302) (q_callF (xs := _) rfl ok63 rfl rfl (fun w hw => laws_rHas.ok h308 w ((rd_sl (i := 5) rfl) w hw))) ?_
                          refine F.qg rfl rfl rfl rfl rfl rfl g302 (r_move rfl) ?_
                          refine F.qg rfl rfl rfl rfl rfl rfl g302 (r_neqB Try.underlying4 rfl rfl) ?_
                          refine F.qn rfl rfl rfl rfl (r_pickf rfl rfl g302) ?_
                          refine F.nil ?_
                          cases hE_11
                          refine Nrm.only [3, 5, 37, 41, 43, 311] rfl ?_
                          refine Nrm.pick [0, 1, 2, 3, 4, 5] rfl rfl ?_
                          exact hj_9 _ _ ⟨rfl, rfl⟩
                       ·replace hE_10 := if_ff g_15 hE_10
                        refine Tri.exit ?_
                        refine Exi.then ?_
                        refine Exi.then ?_
                        refine Exi.same ?_
                        cases hE_10
                        replace h := Lr_inl h
                        refine Nrm.seq (Tri.seq (Tri.reg (l := [0, 1, 2, 3, 4, 5]) rfl ?_))
                        refine F.qn rfl rfl rfl rfl (r_move rfl) ?_
                        refine F.qn rfl rfl rfl rfl (r_len Try.underlying25 rfl hl_v56_1) ?_
                        refine F.qn rfl rfl rfl rfl (r_move rfl) ?_
                        refine F.qn rfl rfl rfl rfl (r_len Try.underlying25 rfl hl_v257_1) ?_
                        refine F.qn rfl rfl rfl rfl (r_leq rfl rfl) ?_
                        refine F.qn rfl rfl rfl rfl (r_assign rfl) ?_
                        refine F.nil (Nrm.seq (Tri.ret ?_))
                        cases h
                        exact Rtn.body (.tmp rfl .nil) (fun w hw => ⟨rfl, hw.ext⟩)
                    ·rcases Bool.eq_false_or_eq_true (!t242_3) with g262 | g262
                     ·replace hE_9 := if_tt g262 hE_9
                      refine Tri.reg (l := List.range 14) rfl ?_
                      refine F.qn rfl rfl rfl rfl (r_move rfl) ?_
                      refine F.qn rfl rfl rfl rfl (r_not rfl) ?_
                      refine F.qn rfl rfl rfl rfl (r_move rfl) ?_
                      refine F.sk rfl rfl rfl (wf rfl rfl rfl g262) ?_
                      refine F.sk rfl rfl rfl (wf rfl rfl rfl g262) ?_
                      refine F.qn rfl rfl rfl rfl (r_pick rfl rfl g262) ?_
                      refine F.qn rfl rfl rfl rfl (r_move rfl) ?_
                      refine F.sk rfl rfl rfl (wf rfl rfl rfl rfl) ?_
                      refine F.sk rfl rfl rfl (wf rfl rfl rfl rfl) ?_
                      refine F.qn rfl rfl rfl rfl (r_pick rfl rfl rfl) ?_
                      refine F.qn rfl rfl rfl rfl (r_move rfl) ?_
                      refine F.sk rfl rfl rfl (wf rfl rfl rfl rfl) ?_
                      refine F.sk rfl rfl rfl (wf rfl rfl rfl rfl) ?_
                      refine F.qn rfl rfl rfl rfl (r_pick rfl rfl rfl) ?_
                      refine F.nil ?_
                      cases hE_9
                      refine Nrm.only [3, 5, 37, 41, 273] rfl ?_
                      refine Nrm.pick [1, 0, 2, 3, 4, 6] rfl rfl ?_
                      exact hj_8 _ _ ⟨rfl, rfl⟩
                     ·replace hE_9 := if_ff g262 hE_9
                      rcases Bool.eq_false_or_eq_true (!t250_2) with g266 | g266
                      ·replace hE_9 := if_tt g266 hE_9
                       refine Tri.reg (l := List.range 14) rfl ?_
                       refine F.qn rfl rfl rfl rfl (r_move rfl) ?_
                       refine F.qn rfl rfl rfl rfl (r_not rfl) ?_
                       refine F.qn rfl rfl rfl rfl (r_move rfl) ?_
                       refine F.qg rfl rfl rfl rfl rfl rfl g262 (r_move rfl) ?_
                       refine F.qg rfl rfl rfl rfl rfl rfl g262 (r_not rfl) ?_
                       refine F.qn rfl rfl rfl rfl (r_pickf rfl rfl g262) ?_
                       refine F.qn rfl rfl rfl rfl (r_move rfl) ?_
                       refine F.sk rfl rfl rfl (wf rfl rfl rfl g266) ?_
                       refine F.sk rfl rfl rfl (wf rfl rfl rfl g266) ?_
                       refine F.qn rfl rfl rfl rfl (r_pick rfl rfl g266) ?_
                       refine F.qn rfl rfl rfl rfl (r_move rfl) ?_
                       refine F.sk rfl rfl rfl (wf rfl rfl rfl rfl) ?_
                       refine F.sk rfl rfl rfl (wf rfl rfl rfl rfl) ?_
                       refine F.qn rfl rfl rfl rfl (r_pick rfl rfl rfl) ?_
                       refine F.nil ?_
                       cases hE_9
                       refine Nrm.only [3, 5, 37, 41, 273] rfl ?_
                       refine Nrm.pick [1, 0, 2, 3, 4, 6] rfl rfl ?_
                       exact hj_8 _ _ ⟨rfl, rfl⟩
                      ·replace hE_9 := if_ff g266 hE_9
                       rcases Bool.eq_false_or_eq_true (!t257_2) with g270 | g270
                       ·replace hE_9 := if_tt g270 hE_9
                        refine Tri.reg (l := List.range 14) rfl ?_
                        refine F.qn rfl rfl rfl rfl (r_move rfl) ?_
                        refine F.qn rfl rfl rfl rfl (r_not rfl) ?_
                        refine F.qn rfl rfl rfl rfl (r_move rfl) ?_
                        refine F.qg rfl rfl rfl rfl rfl rfl g262 (r_move rfl) ?_
                        refine F.qg rfl rfl rfl rfl rfl rfl g262 (r_not rfl) ?_
                        refine F.qn rfl rfl rfl rfl (r_pickf rfl rfl g262) ?_
                        refine F.qn rfl rfl rfl rfl (r_move rfl) ?_
                        refine F.qg rfl rfl rfl rfl rfl rfl g266 (r_move rfl) ?_
                        refine F.qg rfl rfl rfl rfl rfl rfl g266 (r_not rfl) ?_
                        refine F.qn rfl rfl rfl rfl (r_pickf rfl rfl g266) ?_
                        refine F.qn rfl rfl rfl rfl (r_move rfl) ?_
                        refine F.sk rfl rfl rfl (wf rfl rfl rfl g270) ?_
                        refine F.sk rfl rfl rfl (wf rfl rfl rfl g270) ?_
                        refine F.qn rfl rfl rfl rfl (r_pick rfl rfl g270) ?_
                        refine F.nil ?_
                        cases hE_9
                        refine Nrm.only [3, 5, 37, 41, 273] rfl ?_
                        refine Nrm.pick [1, 0, 2, 3, 4, 6] rfl rfl ?_
                        exact hj_8 _ _ ⟨rfl, rfl⟩
                       ·replace hE_9 := if_ff g270 hE_9
                        refine Tri.reg (l := List.range 14) rfl ?_
                        refine F.qn rfl rfl rfl rfl (r_move rfl) ?_
                        refine F.qn rfl rfl rfl rfl (r_not rfl) ?_
                        refine F.qn rfl rfl rfl rfl (r_move rfl) ?_
                        refine F.qg rfl rfl rfl rfl rfl rfl g262 (r_move rfl) ?_
                        refine F.qg rfl rfl rfl rfl rfl rfl g262 (r_not rfl) ?_
                        refine F.qn rfl rfl rfl rfl (r_pickf rfl rfl g262) ?_
                        refine F.qn rfl rfl rfl rfl (r_move rfl) ?_
                        refine F.qg rfl rfl rfl rfl rfl rfl g266 (r_move rfl) ?_
                        refine F.qg rfl rfl rfl rfl rfl rfl g266 (r_not rfl) ?_
                        refine F.qn rfl rfl rfl rfl (r_pickf rfl rfl g266) ?_
                        refine F.qn rfl rfl rfl rfl (r_move rfl) ?_
                        refine F.qg rfl rfl rfl rfl rfl rfl g270 (r_move rfl) ?_
                        refine F.qg rfl rfl rfl rfl rfl rfl g270 (r_not rfl) ?_
                        refine F.qn rfl rfl rfl rfl (r_pickf rfl rfl g270) ?_
                        refine F.nil ?_
                        cases hE_9
                        refine Nrm.only [3, 5, 37, 41, 273] rfl ?_
                        refine Nrm.pick [1, 0, 2, 3, 4, 6] rfl rfl ?_
                        exact hj_8 _ _ ⟨rfl, rfl⟩
                 ·rcases Bool.eq_false_or_eq_true (!t224_3) with g230 | g230
                  ·replace hE_8 := if_tt g230 hE_8
                   refine Tri.reg (l := [0, 1, 2, 3, 4, 5, 6, 7, 8]) rfl ?_
                   refine F.qn rfl rfl rfl rfl (r_move rfl) ?_
                   refine F.qn rfl rfl rfl rfl (r_not rfl) ?_
                   refine F.qn rfl rfl rfl rfl (r_move rfl) ?_
                   iterate 5 refine F.sk rfl rfl rfl (wf rfl rfl rfl g230) ?_
                   refine F.qn rfl rfl rfl rfl (r_pick rfl rfl g230) ?_
                   refine F.nil ?_
                   cases hE_8
                   refine Nrm.only [3, 4, 5, 6, 236] rfl ?_
                   refine Nrm.pick [2, 11, 12, 13, 14, 15] rfl rfl ?_
                   exact hj_7 _ _ ⟨rfl, rfl⟩
                  ·replace hE_8 := if_ff g230 hE_8
                   obtain ⟨t232, h232, hE_8⟩ := bind_some hE_8
                   refine Tri.reg (l := [0, 1, 2, 3, 4, 5, 6, 7, 8]) rfl ?_
                   refine F.qn rfl rfl rfl rfl (r_move rfl) ?_
                   refine F.qn rfl rfl rfl rfl (r_not rfl) ?_
                   refine F.qn rfl rfl rfl rfl (r_move rfl) ?_
                   refine F.qg rfl rfl rfl rfl rfl rfl g230 (r_move rfl) ?_
                   refine F.qc rfl rfl rfl (wg rfl rfl rfl g230) (q_callF (xs := _) rfl ok63 rfl rfl (fun w hw => laws_rHas.ok h232 w ((rd_sl (i := 10) rfl) w hw))) ?_
                   refine F.qg rfl rfl rfl rfl rfl rfl g230 (r_move rfl) ?_
                   refine F.qg rfl rfl rfl rfl rfl rfl g230 (r_eql rfl rfl) ?_
                   refine F.qg rfl rfl rfl rfl rfl rfl g230 (r_neqB Try.underlying4 rfl rfl) ?_
                   refine F.qn rfl rfl rfl rfl (r_pickf rfl rfl g230) ?_
                   refine F.nil ?_
                   cases hE_8
                   refine Nrm.only [3, 4, 5, 6, 236] rfl ?_
                   refine Nrm.pick [2, 11, 12, 13, 14, 15] rfl rfl ?_
                   exact hj_7 _ _ ⟨rfl, rfl⟩
                ·replace h := if_ff g_11 h
                 refine Tri.skip (Nrm.seq (Tri.seq (Tri.seq (Tri.reg (l := [0, 1]) rfl ?_))))
                 refine F.qn rfl rfl rfl rfl (r_move rfl) ?_
                 refine F.qn rfl rfl rfl rfl (r_not rfl) ?_
                 refine F.nil (Nrm.seq (Tri.cond (b := !t56_2) rfl (fun g_17 => ?_) (fun g_17 => ?_)))
                 ·replace h := if_tt g_17 h
                  refine Tri.seq (Tri.reg (l := [0]) rfl ?_)
                  refine F.qn rfl rfl rfl rfl (r_assign rfl) ?_
                  refine F.nil (Nrm.seq (Tri.ret ?_))
                  refine Rtn.then ?_
                  cases h
                  exact Rtn.body (.tmp rfl .nil) (fun w hw => ⟨rfl, hw.ext⟩)
                 ·replace h := if_ff g_17 h
                  refine Tri.skip (Nrm.seq (Tri.seq ?_))
                  obtain ⟨⟨t242_1, t242_2, t242_3⟩, h242, h⟩ := bind_some h
                  refine Tri.reg (l := [0, 1, 2, 3, 4, 5, 6, 7, 8, 9]) rfl ?_
                  refine F.qn rfl rfl rfl rfl (r_loadA ta66 ti66 rfl rfl (fun w hw => (box_cells (i := 2) rfl w hw))) ?_
                  refine F.qn rfl rfl rfl rfl (r_move rfl) ?_
                  refine F.qcn rfl rfl rfl rfl (q_callF (xs := _) rfl ok64 rfl rfl (fun w hw => impl_StateBehind.ok h242 w ((rd_sl (i := 11) rfl) w hw) ((rd_sl (i := 12) rfl) w hw) ((rd_sl (i := 13) rfl) w hw) ((rd_sl (i := 14) rfl) w hw))) ?_
                  refine F.qn rfl rfl rfl rfl (r_move rfl) ?_
                  iterate 3 refine F.qn rfl rfl rfl rfl (r_extract rfl rfl) ?_
                  iterate 3 refine F.qn rfl rfl rfl rfl (r_assign rfl) ?_
                  refine F.nil (Nrm.seq (Tri.seq ?_))
                  obtain ⟨⟨t250_1, t250_2⟩, h250, h⟩ := bind_some h
                  refine Tri.reg (l := [0, 1, 2, 3, 4, 5, 6, 7, 8]) rfl ?_
                  refine F.qn rfl rfl rfl rfl (r_fieldAddr tf66_0 rfl) ?_
                  refine F.qn rfl rfl rfl rfl (r_loadA ta27 ti27 rfl rfl (fun w hw => cells_1 (cs' := [.int .i64 t50_1, v50_1, v50_2]) (box_cells (i := 2) rfl w hw) rfl)) ?_
                  refine F.qn rfl rfl rfl rfl (r_move rfl) ?_
                  refine F.qcn rfl rfl rfl rfl (q_callF (xs := _) rfl ok65 rfl rfl (fun w hw => impl_IsKeyWalk.ok h250 w ((rd_sl (i := 11) rfl) w hw) ((rd_sl (i := 12) rfl) w hw) ((rd_sl (i := 14) rfl) w hw))) ?_
                  refine F.qn rfl rfl rfl rfl (r_move rfl) ?_
                  refine F.qn rfl rfl rfl rfl (r_extract rfl rfl) ?_
                  refine F.qn rfl rfl rfl rfl (r_extract rfl rfl) ?_
                  refine F.qn rfl rfl rfl rfl (r_assign rfl) ?_
                  refine F.qn rfl rfl rfl rfl (r_assign rfl) ?_
                  refine F.nil (Nrm.seq (Tri.seq ?_))
                  obtain ⟨⟨t257_1, t257_2⟩, h257, h⟩ := bind_some h
                  refine Tri.reg (l := [0, 1, 2, 3, 4, 5, 6, 7, 8]) rfl ?_
                  refine F.qn rfl rfl rfl rfl (r_loadA ta66 ti66 rfl rfl (fun w hw => (box_cells (i := 2) rfl w hw))) ?_
                  refine F.qn rfl rfl rfl rfl (r_move rfl) ?_
                  refine F.qn rfl rfl rfl rfl (r_move rfl) ?_
                  refine F.mn rfl rfl rfl rfl (m_callF (xs := _) rfl ok55 rfl rfl (fun w hw => impl_StepsFrom.ok h257 w ((rd_sl (i := 11) rfl) w hw) ((rd_sl (i := 12) rfl) w hw) ((rd_sl (i := 13) rfl) w hw))) ?_
                  rintro _ _ ⟨_, ⟨v257_2, S257_2, rfl, hl_v257_2, rfl⟩, rfl⟩
                  refine F.qn rfl rfl rfl rfl (r_move rfl) ?_
                  refine F.qn rfl rfl rfl rfl (r_extract rfl rfl) ?_
                  refine F.qn rfl rfl rfl rfl (r_extract rfl rfl) ?_
                  refine F.qn rfl rfl rfl rfl (r_assign rfl) ?_
                  refine F.qn rfl rfl rfl rfl (r_assign rfl) ?_
                  refine F.nil (Nrm.seq (Tri.seq (Tri.seq ?_)))
                  obtain ⟨y273r, hE_12, h⟩ := bind_some h
                  refine Tri.cut (fun e' C' => e' = [(3, .pointer (some ⟨b3_1, 0, none⟩)), (5, v56_1), (37, .int .i64 t242_2), (41, v257_2), (273, .bool y273r)] ∧ C' = Sep w noM [R.box b3_1 66 [.int .i64 t50_1, v50_1, v50_2, v50_3], R.sl S257_2 v257_2 (t257_1 : List (Int)), R.sl S50_1 v50_1 (t50_2 : List (Int × Int × Int)), R.sl S50_2 v50_2 (t50_3 : List (Int)), R.sl S50_3 v50_3 (t50_4 : List (Int)), R.sl S56_1 v56_1 (t56_1 : List (Int))]) ?_ (fun hj_10 => ?_)
                  ·rintro _ _ ⟨rfl, rfl⟩
                   refine Nrm.seq (Tri.cond (b := y273r) rfl (fun g_18 => ?_) (fun g_18 => ?_))
                   ·replace h := if_tt g_18 h
                    refine Tri.seq (Tri.reg (l := [0]) rfl ?_)
                    refine F.qn rfl rfl rfl rfl (r_assign rfl) ?_
                    refine F.nil (Nrm.seq (Tri.ret ?_))
                    refine Rtn.then ?_
                    cases h
                    exact Rtn.body (.tmp rfl .nil) (fun w hw => ⟨rfl, hw.ext⟩)
                   ·replace h := if_ff g_18 h
                    refine Tri.skip (Nrm.seq (Tri.seq (Tri.seq (Tri.reg (l := [0]) rfl ?_))))
                    refine F.qn rfl rfl rfl rfl (r_assign rfl) ?_
                    refine F.nil (Nrm.seq ?_)
                    obtain ⟨s2, hE_13, h⟩ := bind_some h
                    refine Tri.block ?_
                    refine Tri.only [3, 5, 37, 41, 43] rfl ?_
                    refine Tri.pick [0, 1, 2, 3, 4, 5] rfl rfl ?_
                    refine Tri.rounds (fun n e' C' => ∃ (x43r' : Int), laws_FnTrapSteps.l2 k t50_1 t50_2 t50_3 t50_4 t56_1 t242_2 t257_1 n x43r' = some s2 ∧ e' = [(3, .pointer (some ⟨b3_1, 0, none⟩)), (5, v56_1), (37, .int .i64 t242_2), (41, v257_2), (43, .int .i64 x43r')] ∧ C' = Sep w noM [R.box b3_1 66 [.int .i64 t50_1, v50_1, v50_2, v50_3], R.sl S257_2 v257_2 (t257_1 : List (Int)), R.sl S50_1 v50_1 (t50_2 : List (Int × Int × Int)), R.sl S50_2 v50_2 (t50_3 : List (Int)), R.sl S50_3 v50_3 (t50_4 : List (Int)), R.sl S56_1 v56_1 (t56_1 : List (Int))]) k ?_ ?_ ?_
                    ·exact ⟨0, hE_13, rfl, rfl⟩
                    ·rintro _ _ ⟨_, hE_13, _⟩
                     rw [laws_FnTrapSteps.l2.eq_1] at hE_13; cases hE_13
                    ·rintro n_3 _ _ ⟨x43r, hE_13, rfl, rfl⟩ ih_3
                     rw [laws_FnTrapSteps.l2.eq_2] at hE_13
                     refine Tri.seq (Tri.seq (Tri.reg (l := [0, 1, 2, 3]) rfl ?_))
                     refine F.qn rfl rfl rfl rfl (r_move rfl) ?_
                     refine F.qn rfl rfl rfl rfl (r_move rfl) ?_
                     refine F.qn rfl rfl rfl rfl (r_len Try.underlying25 rfl hl_v257_2) ?_
                     refine F.qn rfl rfl rfl rfl (r_lss rfl rfl) ?_
                     refine F.nil (Nrm.seq (Tri.cond (b := decide (x43r < (t257_1.length : Int))) rfl (fun g_19 => ?_) (fun g_19 => ?_)))
                     ·replace hE_13 := if_tt g_19 hE_13
                      refine Tri.skip (Nrm.seq (Tri.seq (Tri.block ?_)))
                      refine Tri.seq ?_
                      obtain ⟨t284, h284, hE_13⟩ := bind_some hE_13
                      obtain ⟨t292, h292, hE_13⟩ := bind_some hE_13
                      obtain ⟨t294, h294, hE_13⟩ := bind_some hE_13
                      obtain ⟨⟨t297_1, t297_2⟩, h297, hE_13⟩ := bind_some hE_13
                      refine Tri.drawA mixedT Sep.up [(0, true), (1, true), (2, true), (3, true), (4, true), (5, true), (6, true), (7, true), (8, true), (9, true), (10, true), (11, true), (12, true), (13, true), (14, true), (15, true), (16, true), (17, true), (18, true), (19, true), (20, true), (21, true)] [] (by kernel_rfl) ?_
                      refine S.qn rfl rfl rfl rfl (r_loadA ta66 ti66 rfl rfl (fun w hw => (box_cells (i := 0) rfl w hw))) ?_
                      refine S.qn rfl rfl rfl rfl (r_move rfl) ?_
                      refine S.qn rfl rfl rfl rfl (r_move rfl) ?_
                      refine S.qn rfl rfl rfl rfl (r_indexAddrS Try.underlying25 ti3 rfl hl_v257_2 rfl (rdl_some h284).1 (rdl_some h284).2.1) ?_
                      refine S.qn rfl rfl rfl rfl (r_load ta3 rfl (fun w hw => cell_0 (Rd.flat ((rd_sl (i := 1) rfl) w hw) (rdl_some h284).2.2) rfl)) ?_
                      refine S.qn rfl rfl rfl rfl (r_move rfl) ?_
                      refine S.qn rfl rfl rfl rfl (r_fieldAddr tf66_0 rfl) ?_
                      refine S.qn rfl rfl rfl rfl (r_fieldAddr tf27_2 rfl) ?_
                      refine S.qn rfl rfl rfl rfl (r_load ta25 rfl (fun w hw => cell_2 (box_cells (i := 0) rfl w hw) rfl)) ?_
                      refine S.qn rfl rfl rfl rfl (r_move rfl) ?_
                      refine S.qn rfl rfl rfl rfl (r_move rfl) ?_
                      refine S.qn rfl rfl rfl rfl (r_indexAddrS Try.underlying25 ti3 rfl hl_v257_2 rfl (rdl_some h292).1 (rdl_some h292).2.1) ?_
                      refine S.qn rfl rfl rfl rfl (r_load ta3 rfl (fun w hw => cell_0 (Rd.flat ((rd_sl (i := 1) rfl) w hw) (rdl_some h292).2.2) rfl)) ?_
                      refine S.qn rfl rfl rfl rfl (r_indexAddrS Try.underlying25 ti3 rfl hl_v50_2 rfl (rdl_some h294).1 (rdl_some h294).2.1) ?_
                      refine S.qn rfl rfl rfl rfl (r_load ta3 rfl (fun w hw => cell_0 (Rd.flat ((rd_sl (i := 3) rfl) w hw) (rdl_some h294).2.2) rfl)) ?_
                      refine S.qn rfl rfl rfl rfl (r_or rfl rfl) ?_
                      refine S.qcn rfl rfl rfl rfl (q_callF (xs := _) rfl ok57 rfl rfl (fun w hw => impl_IsGood.ok h297 w ((rd_sl (i := 2) rfl) w hw) ((rd_sl (i := 3) rfl) w hw) ((rd_sl (i := 4) rfl) w hw))) ?_
                      refine S.qn rfl rfl rfl rfl (r_move rfl) ?_
                      refine S.qn rfl rfl rfl rfl (r_extract rfl rfl) ?_
                      refine S.qn rfl rfl rfl rfl (r_extract rfl rfl) ?_
                      refine S.qn rfl rfl rfl rfl (r_assign rfl) ?_
                      refine S.qn rfl rfl rfl rfl (r_assign rfl) ?_
                      refine S.nil (F.nil (Nrm.seq (Tri.seq ?_)))
                      obtain ⟨y311r, hE_14, hE_13⟩ := bind_some hE_13
                      refine Tri.cut (fun e' C' => e' = [(3, .pointer (some ⟨b3_1, 0, none⟩)), (5, v56_1), (37, .int .i64 t242_2), (41, v257_2), (43, .int .i64 x43r), (311, .bool y311r)] ∧ C' = Sep w noM [R.box b3_1 66 [.int .i64 t50_1, v50_1, v50_2, v50_3], R.sl S257_2 v257_2 (t257_1 : List (Int)), R.sl S50_1 v50_1 (t50_2 : List (Int × Int × Int)), R.sl S50_2 v50_2 (t50_3 : List (Int)), R.sl S50_3 v50_3 (t50_4 : List (Int)), R.sl S56_1 v56_1 (t56_1 : List (Int))]) ?_ (fun hj_11 => ?_)
                      ·rintro _ _ ⟨rfl, rfl⟩
                       refine Nrm.seq (Tri.cond (b := y311r) rfl (fun g_20 => ?_) (fun g_20 => ?_))
                       ·replace hE_13 := if_tt g_20 hE_13
                        refine Tri.seq (Tri.reg (l := [0]) rfl ?_)
                        refine F.qn rfl rfl rfl rfl (r_assign rfl) ?_
                        refine F.nil (Nrm.seq (Tri.ret ?_))
                        refine Rtn.block ?_
                        refine Rtn.then ?_
                        refine Rtn.then ?_
                        refine Rtn.block ?_
                        refine Rtn.then ?_
                        cases hE_13
                        replace h := Lr_inr h
                        cases h
                        exact Rtn.body (.tmp rfl .nil) (fun w hw => ⟨rfl, hw.ext⟩)
                       ·replace hE_13 := if_ff g_20 hE_13
                        refine Tri.skip (Nrm.block ?_)
                        refine Nrm.seq (Tri.reg (l := [0, 1, 2]) rfl ?_)
                        refine F.qn rfl rfl rfl rfl (r_move rfl) ?_
                        refine F.qn rfl rfl rfl rfl (r_add rfl rfl) ?_
                        refine F.qn rfl rfl rfl rfl (r_assign rfl) ?_
                        refine F.nil (Nrm.round ?_)
                        refine Rnd.only [3, 5, 37, 41, 43] rfl ?_
                        refine Rnd.pick [0, 1, 2, 3, 4, 5] rfl rfl ?_
                        exact ih_3 _ _ ⟨w64 (x43r + 1), hE_13, rfl, rfl⟩
                      ·rcases Bool.eq_false_or_eq_true (!t297_2) with g302 | g302
                       ·replace hE_14 := if_tt g302 hE_14
                        refine Tri.reg (l := List.range 12) rfl ?_
                        refine F.qn rfl rfl rfl rfl (r_move rfl) ?_
                        refine F.qn rfl rfl rfl rfl (r_not rfl) ?_
                        refine F.qn rfl rfl rfl rfl (r_move rfl) ?_
                        iterate 8 refine F.sk rfl rfl rfl (wf rfl rfl rfl g302) ?_
                        refine F.qn rfl rfl rfl rfl (r_pick rfl rfl g302) ?_
                        refine F.nil ?_
                        cases hE_14
                        refine Nrm.only [3, 5, 37, 41, 43, 311] rfl ?_
                        refine Nrm.pick [0, 1, 2, 3, 4, 5] rfl rfl ?_
                        exact hj_11 _ _ ⟨rfl, rfl⟩
                       ·replace hE_14 := if_ff g302 hE_14
                        obtain ⟨t306, h306, hE_14⟩ := bind_some hE_14
                        obtain ⟨t308, h308, hE_14⟩ := bind_some hE_14
                        refine Tri.reg (l := List.range 12) rfl ?_
                        refine F.qn rfl rfl rfl rfl (r_move rfl) ?_
                        refine F.qn rfl rfl rfl rfl (r_not rfl) ?_
                        refine F.qn rfl rfl rfl rfl (r_move rfl) ?_
                        iterate 3 refine F.qg rfl rfl rfl rfl rfl rfl g302 (r_move rfl) ?_
                        refine F.qg rfl rfl rfl rfl rfl rfl g302 (r_indexAddrS Try.underlying25 ti3 rfl hl_v257_2 rfl (rdl_some h306).1 (rdl_some h306).2.1) ?_
                        refine F.qg rfl rfl rfl rfl rfl rfl g302 (r_load ta3 rfl (fun w hw => cell_0 (Rd.flat ((rd_sl (i := 1) rfl) w hw) (rdl_some h306).2.2) rfl)) ?_
                        refine F.qc rfl rfl rfl (wg rfl rfl rfl g302) (q_callF (xs := _) rfl ok63 rfl rfl (fun w hw => laws_rHas.ok h308 w ((rd_sl (i := 5) rfl) w hw))) ?_
                        refine F.qg rfl rfl rfl rfl rfl rfl g302 (r_move rfl) ?_
                        refine F.qg rfl rfl rfl rfl rfl rfl g302 (r_neqB Try.underlying4 rfl rfl) ?_
                        refine F.qn rfl rfl rfl rfl (r_pickf rfl rfl g302) ?_
                        refine F.nil ?_
                        cases hE_14
                        refine Nrm.only [3, 5, 37, 41, 43, 311] rfl ?_
                        refine Nrm.pick [0, 1, 2, 3, 4, 5] rfl rfl ?_
                        exact hj_11 _ _ ⟨rfl, rfl⟩
                     ·replace hE_13 := if_ff g_19 hE_13
                      refine Tri.exit ?_
                      refine Exi.then ?_
                      refine Exi.then ?_
                      refine Exi.same ?_
                      cases hE_13
                      replace h := Lr_inl h
                      refine Nrm.seq (Tri.seq (Tri.reg (l := [0, 1, 2, 3, 4, 5]) rfl ?_))
                      refine F.qn rfl rfl rfl rfl (r_move rfl) ?_
                      refine F.qn rfl rfl rfl rfl (r_len Try.underlying25 rfl hl_v56_1) ?_
                      refine F.qn rfl rfl rfl rfl (r_move rfl) ?_
                      refine F.qn rfl rfl rfl rfl (r_len Try.underlying25 rfl hl_v257_2) ?_
                      refine F.qn rfl rfl rfl rfl (r_leq rfl rfl) ?_
                      refine F.qn rfl rfl rfl rfl (r_assign rfl) ?_
                      refine F.nil (Nrm.seq (Tri.ret ?_))
                      cases h
                      exact Rtn.body (.tmp rfl .nil) (fun w hw => ⟨rfl, hw.ext⟩)
                  ·rcases Bool.eq_false_or_eq_true (!t242_3) with g262 | g262
                   ·replace hE_12 := if_tt g262 hE_12
                    refine Tri.reg (l := List.range 14) rfl ?_
                    refine F.qn rfl rfl rfl rfl (r_move rfl) ?_
                    refine F.qn rfl rfl rfl rfl (r_not rfl) ?_
                    refine F.qn rfl rfl rfl rfl (r_move rfl) ?_
                    refine F.sk rfl rfl rfl (wf rfl rfl rfl g262) ?_
                    refine F.sk rfl rfl rfl (wf rfl rfl rfl g262) ?_
                    refine F.qn rfl rfl rfl rfl (r_pick rfl rfl g262) ?_
                    refine F.qn rfl rfl rfl rfl (r_move rfl) ?_
                    refine F.sk rfl rfl rfl (wf rfl rfl rfl rfl) ?_
                    refine F.sk rfl rfl rfl (wf rfl rfl rfl rfl) ?_
                    refine F.qn rfl rfl rfl rfl (r_pick rfl rfl rfl) ?_
                    refine F.qn rfl rfl rfl rfl (r_move rfl) ?_
                    refine F.sk rfl rfl rfl (wf rfl rfl rfl rfl) ?_
                    refine F.sk rfl rfl rfl (wf rfl rfl rfl rfl) ?_
                    refine F.qn rfl rfl rfl rfl (r_pick rfl rfl rfl) ?_
                    refine F.nil ?_
                    cases hE_12
                    refine Nrm.only [3, 5, 37, 41, 273] rfl ?_
                    refine Nrm.pick [3, 0, 12, 13, 14, 16] rfl rfl ?_
                    exact hj_10 _ _ ⟨rfl, rfl⟩
                   ·replace hE_12 := if_ff g262 hE_12
                    rcases Bool.eq_false_or_eq_true (!t250_2) with g266 | g266
                    ·replace hE_12 := if_tt g266 hE_12
                     refine Tri.reg (l := List.range 14) rfl ?_
                     refine F.qn rfl rfl rfl rfl (r_move rfl) ?_
                     refine F.qn rfl rfl rfl rfl (r_not rfl) ?_
                     refine F.qn rfl rfl rfl rfl (r_move rfl) ?_
                     refine F.qg rfl rfl rfl rfl rfl rfl g262 (r_move rfl) ?_
                     refine F.qg rfl rfl rfl rfl rfl rfl g262 (r_not rfl) ?_
                     refine F.qn rfl rfl rfl rfl (r_pickf rfl rfl g262) ?_
                     refine F.qn rfl rfl rfl rfl (r_move rfl) ?_
                     refine F.sk rfl rfl rfl (wf rfl rfl rfl g266) ?_
                     refine F.sk rfl rfl rfl (wf rfl rfl rfl g266) ?_
                     refine F.qn rfl rfl rfl rfl (r_pick rfl rfl g266) ?_
                     refine F.qn rfl rfl rfl rfl (r_move rfl) ?_
                     refine F.sk rfl rfl rfl (wf rfl rfl rfl rfl) ?_
                     refine F.sk rfl rfl rfl (wf rfl rfl rfl rfl) ?_
                     refine F.qn rfl rfl rfl rfl (r_pick rfl rfl rfl) ?_
                     refine F.nil ?_
                     cases hE_12
                     refine Nrm.only [3, 5, 37, 41, 273] rfl ?_
                     refine Nrm.pick [3, 0, 12, 13, 14, 16] rfl rfl ?_
                     exact hj_10 _ _ ⟨rfl, rfl⟩
                    ·replace hE_12 := if_ff g266 hE_12
                     rcases Bool.eq_false_or_eq_true (!t257_2) with g270 | g270
                     ·replace hE_12 := if_tt g270 hE_12
                      refine Tri.reg (l := List.range 14) rfl ?_
                      refine F.qn rfl rfl rfl rfl (r_move rfl) ?_
                      refine F.qn rfl rfl rfl rfl (r_not rfl) ?_
                      refine F.qn rfl rfl rfl rfl (r_move rfl) ?_
                      refine F.qg rfl rfl rfl rfl rfl rfl g262 (r_move rfl) ?_
                      refine F.qg rfl rfl rfl rfl rfl rfl g262 (r_not rfl) ?_
                      refine F.qn rfl rfl rfl rfl (r_pickf rfl rfl g262) ?_
                      refine F.qn rfl rfl rfl rfl (r_move rfl) ?_
                      refine F.qg rfl rfl rfl rfl rfl rfl g266 (r_move rfl) ?_
                      refine F.qg rfl rfl rfl rfl rfl rfl g266 (r_not rfl) ?_
                      refine F.qn rfl rfl rfl rfl (r_pickf rfl rfl g266) ?_
                      refine F.qn rfl rfl rfl rfl (r_move rfl) ?_
                      refine F.sk rfl rfl rfl (wf rfl rfl rfl g270) ?_
                      refine F.sk rfl rfl rfl (wf rfl rfl rfl g270) ?_
                      refine F.qn rfl rfl rfl rfl (r_pick rfl rfl g270) ?_
                      refine F.nil ?_
                      cases hE_12
                      refine Nrm.only [3, 5, 37, 41, 273] rfl ?_
                      refine Nrm.pick [3, 0, 12, 13, 14, 16] rfl rfl ?_
                      exact hj_10 _ _ ⟨rfl, rfl⟩
                     ·replace hE_12 := if_ff g270 hE_12
                      refine Tri.reg (l := List.range 14) rfl ?_
                      refine F.qn rfl rfl rfl rfl (r_move rfl) ?_
                      refine F.qn rfl rfl rfl rfl (r_not rfl) ?_
                      refine F.qn rfl rfl rfl rfl (r_move rfl) ?_
                      refine F.qg rfl rfl rfl rfl rfl rfl g262 (r_move rfl) ?_
                      refine F.qg rfl rfl rfl rfl rfl rfl g262 (r_not rfl) ?_
                      refine F.qn rfl rfl rfl rfl (r_pickf rfl rfl g262) ?_
                      refine F.qn rfl rfl rfl rfl (r_move rfl) ?_
                      refine F.qg rfl rfl rfl rfl rfl rfl g266 (r_move rfl) ?_
                      refine F.qg rfl rfl rfl rfl rfl rfl g266 (r_not rfl) ?_
                      refine F.qn rfl rfl rfl rfl (r_pickf rfl rfl g266) ?_
                      refine F.qn rfl rfl rfl rfl (r_move rfl) ?_
                      refine F.qg rfl rfl rfl rfl rfl rfl g270 (r_move rfl) ?_
                      refine F.qg rfl rfl rfl rfl rfl rfl g270 (r_not rfl) ?_
                      refine F.qn rfl rfl rfl rfl (r_pickf rfl rfl g270) ?_
                      refine F.nil ?_
                      cases hE_12
                      refine Nrm.only [3, 5, 37, 41, 273] rfl ?_
                      refine Nrm.pick [3, 0, 12, 13, 14, 16] rfl rfl ?_
                      exact hj_10 _ _ ⟨rfl, rfl⟩
            ·replace h := if_ff g_7 h
             refine Tri.skip (Nrm.seq (Tri.seq (Tri.seq (Tri.reg (l := [0]) rfl ?_))))
             refine F.qn rfl rfl rfl rfl (r_move rfl) ?_
             refine F.nil (Nrm.seq (Tri.cond (b := t162_2) rfl (fun g_21 => ?_) (fun g_21 => ?_)))
             ·replace h := if_tt g_21 h
              refine Tri.seq ?_
              obtain ⟨⟨t224_1, t224_2, t224_3⟩, h224, h⟩ := bind_some h
              refine Tri.reg (l := [0, 1, 2, 3, 4, 5, 6, 7, 8]) rfl ?_
              refine F.qn rfl rfl rfl rfl (r_loadA ta66 ti66 rfl rfl (fun w hw => (box_cells (i := 0) rfl w hw))) ?_
              refine F.qcn rfl rfl rfl rfl (q_callF (xs := _) rfl ok62 rfl rfl (fun w hw => impl_CountMet.ok h224 w ((rd_sl (i := 7) rfl) w hw) ((rd_sl (i := 8) rfl) w hw) ((rd_sl (i := 9) rfl) w hw))) ?_
              refine F.qn rfl rfl rfl rfl (r_move rfl) ?_
              iterate 3 refine F.qn rfl rfl rfl rfl (r_extract rfl rfl) ?_
              iterate 3 refine F.qn rfl rfl rfl rfl (r_assign rfl) ?_
              refine F.nil (Nrm.seq (Tri.seq ?_))
              obtain ⟨y236r, hE_15, h⟩ := bind_some h
              refine Tri.cut (fun e' C' => e' = [(3, .pointer (some ⟨b3_1, 0, none⟩)), (4, v50_4), (5, v56_1), (6, .bool t56_2), (236, .bool y236r)] ∧ C' = Sep w noM [R.box b3_1 66 [.int .i64 t50_1, v50_1, v50_2, v50_3], R.sl S50_1 v50_1 (t50_2 : List (Int × Int × Int)), R.sl S50_2 v50_2 (t50_3 : List (Int)), R.sl S50_3 v50_3 (t50_4 : List (Int)), R.sl S50_4 v50_4 (t50_5 : List (Int)), R.sl S56_1 v56_1 (t56_1 : List (Int))]) ?_ (fun hj_12 => ?_)
              ·rintro _ _ ⟨rfl, rfl⟩
               refine Nrm.seq (Tri.cond (b := y236r) rfl (fun g_22 => ?_) (fun g_22 => ?_))
               ·replace h := if_tt g_22 h
                refine Tri.seq (Tri.reg (l := [0]) rfl ?_)
                refine F.qn rfl rfl rfl rfl (r_assign rfl) ?_
                refine F.nil (Nrm.seq (Tri.ret ?_))
                refine Rtn.then ?_
                cases h
                exact Rtn.body (.tmp rfl .nil) (fun w hw => ⟨rfl, hw.ext⟩)
               ·replace h := if_ff g_22 h
                refine Tri.skip (Nrm.seq (Tri.seq (Tri.seq (Tri.reg (l := [0, 1]) rfl ?_))))
                refine F.qn rfl rfl rfl rfl (r_move rfl) ?_
                refine F.qn rfl rfl rfl rfl (r_not rfl) ?_
                refine F.nil (Nrm.seq (Tri.cond (b := !t56_2) rfl (fun g_23 => ?_) (fun g_23 => ?_)))
                ·replace h := if_tt g_23 h
                 refine Tri.seq (Tri.reg (l := [0]) rfl ?_)
                 refine F.qn rfl rfl rfl rfl (r_assign rfl) ?_
                 refine F.nil (Nrm.seq (Tri.ret ?_))
                 refine Rtn.then ?_
                 cases h
                 exact Rtn.body (.tmp rfl .nil) (fun w hw => ⟨rfl, hw.ext⟩)
                ·replace h := if_ff g_23 h
                 refine Tri.skip (Nrm.seq (Tri.seq ?_))
                 obtain ⟨⟨t242_1, t242_2, t242_3⟩, h242, h⟩ := bind_some h
                 refine Tri.reg (l := [0, 1, 2, 3, 4, 5, 6, 7, 8, 9]) rfl ?_
                 refine F.qn rfl rfl rfl rfl (r_loadA ta66 ti66 rfl rfl (fun w hw => (box_cells (i := 0) rfl w hw))) ?_
                 refine F.qn rfl rfl rfl rfl (r_move rfl) ?_
                 refine F.qcn rfl rfl rfl rfl (q_callF (xs := _) rfl ok64 rfl rfl (fun w hw => impl_StateBehind.ok h242 w ((rd_sl (i := 1) rfl) w hw) ((rd_sl (i := 2) rfl) w hw) ((rd_sl (i := 3) rfl) w hw) ((rd_sl (i := 4) rfl) w hw))) ?_
                 refine F.qn rfl rfl rfl rfl (r_move rfl) ?_
                 iterate 3 refine F.qn rfl rfl rfl rfl (r_extract rfl rfl) ?_
                 iterate 3 refine F.qn rfl rfl rfl rfl (r_assign rfl) ?_
                 refine F.nil (Nrm.seq (Tri.seq ?_))
                 obtain ⟨⟨t250_1, t250_2⟩, h250, h⟩ := bind_some h
                 refine Tri.reg (l := [0, 1, 2, 3, 4, 5, 6, 7, 8]) rfl ?_
                 refine F.qn rfl rfl rfl rfl (r_fieldAddr tf66_0 rfl) ?_
                 refine F.qn rfl rfl rfl rfl (r_loadA ta27 ti27 rfl rfl (fun w hw => cells_1 (cs' := [.int .i64 t50_1, v50_1, v50_2]) (box_cells (i := 0) rfl w hw) rfl)) ?_
                 refine F.qn rfl rfl rfl rfl (r_move rfl) ?_
                 refine F.qcn rfl rfl rfl rfl (q_callF (xs := _) rfl ok65 rfl rfl (fun w hw => impl_IsKeyWalk.ok h250 w ((rd_sl (i := 1) rfl) w hw) ((rd_sl (i := 2) rfl) w hw) ((rd_sl (i := 4) rfl) w hw))) ?_
                 refine F.qn rfl rfl rfl rfl (r_move rfl) ?_
                 refine F.qn rfl rfl rfl rfl (r_extract rfl rfl) ?_
                 refine F.qn rfl rfl rfl rfl (r_extract rfl rfl) ?_
                 refine F.qn rfl rfl rfl rfl (r_assign rfl) ?_
                 refine F.qn rfl rfl rfl rfl (r_assign rfl) ?_
                 refine F.nil (Nrm.seq (Tri.seq ?_))
                 obtain ⟨⟨t257_1, t257_2⟩, h257, h⟩ := bind_some h
                 refine Tri.reg (l := [0, 1, 2, 3, 4, 5, 6, 7, 8]) rfl ?_
                 refine F.qn rfl rfl rfl rfl (r_loadA ta66 ti66 rfl rfl (fun w hw => (box_cells (i := 0) rfl w hw))) ?_
                 refine F.qn rfl rfl rfl rfl (r_move rfl) ?_
                 refine F.qn rfl rfl rfl rfl (r_move rfl) ?_
                 refine F.mn rfl rfl rfl rfl (m_callF (xs := _) rfl ok55 rfl rfl (fun w hw => impl_StepsFrom.ok h257 w ((rd_sl (i := 1) rfl) w hw) ((rd_sl (i := 2) rfl) w hw) ((rd_sl (i := 3) rfl) w hw))) ?_
                 rintro _ _ ⟨_, ⟨v257_3, S257_3, rfl, hl_v257_3, rfl⟩, rfl⟩
                 refine F.qn rfl rfl rfl rfl (r_move rfl) ?_
                 refine F.qn rfl rfl rfl rfl (r_extract rfl rfl) ?_
                 refine F.qn rfl rfl rfl rfl (r_extract rfl rfl) ?_
                 refine F.qn rfl rfl rfl rfl (r_assign rfl) ?_
                 refine F.qn rfl rfl rfl rfl (r_assign rfl) ?_
                 refine F.nil (Nrm.seq (Tri.seq (Tri.seq ?_)))
                 obtain ⟨y273rr, hE_16, h⟩ := bind_some h
                 refine Tri.cut (fun e' C' => e' = [(3, .pointer (some ⟨b3_1, 0, none⟩)), (5, v56_1), (37, .int .i64 t242_2), (41, v257_3), (273, .bool y273rr)] ∧ C' = Sep w noM [R.box b3_1 66 [.int .i64 t50_1, v50_1, v50_2, v50_3], R.sl S257_3 v257_3 (t257_1 : List (Int)), R.sl S50_1 v50_1 (t50_2 : List (Int × Int × Int)), R.sl S50_2 v50_2 (t50_3 : List (Int)), R.sl S50_3 v50_3 (t50_4 : List (Int)), R.sl S56_1 v56_1 (t56_1 : List (Int))]) ?_ (fun hj_13 => ?_)
                 ·rintro _ _ ⟨rfl, rfl⟩
                  refine Nrm.seq (Tri.cond (b := y273rr) rfl (fun g_24 => ?_) (fun g_24 => ?_))
                  ·replace h := if_tt g_24 h
                   refine Tri.seq (Tri.reg (l := [0]) rfl ?_)
                   refine F.qn rfl rfl rfl rfl (r_assign rfl) ?_
                   refine F.nil (Nrm.seq (Tri.ret ?_))
                   refine Rtn.then ?_
                   cases h
                   exact Rtn.body (.tmp rfl .nil) (fun w hw => ⟨rfl, hw.ext⟩)
                  ·replace h := if_ff g_24 h
                   refine Tri.skip (Nrm.seq (Tri.seq (Tri.seq (Tri.reg (l := [0]) rfl ?_))))
                   refine F.qn rfl rfl rfl rfl (r_assign rfl) ?_
                   refine F.nil (Nrm.seq ?_)
                   obtain ⟨s3, hE_17, h⟩ := bind_some h
                   refine Tri.block ?_
                   refine Tri.only [3, 5, 37, 41, 43] rfl ?_
                   refine Tri.pick [0, 1, 2, 3, 4, 5] rfl rfl ?_
                   refine Tri.rounds (fun n e' C' => ∃ (x43rr' : Int), laws_FnTrapSteps.l3 k t50_1 t50_2 t50_3 t50_4 t56_1 t242_2 t257_1 n x43rr' = some s3 ∧ e' = [(3, .pointer (some ⟨b3_1, 0, none⟩)), (5, v56_1), (37, .int .i64 t242_2), (41, v257_3), (43, .int .i64 x43rr')] ∧ C' = Sep w noM [R.box b3_1 66 [.int .i64 t50_1, v50_1, v50_2, v50_3], R.sl S257_3 v257_3 (t257_1 : List (Int)), R.sl S50_1 v50_1 (t50_2 : List (Int × Int × Int)), R.sl S50_2 v50_2 (t50_3 : List (Int)), R.sl S50_3 v50_3 (t50_4 : List (Int)), R.sl S56_1 v56_1 (t56_1 : List (Int))]) k ?_ ?_ ?_
                   ·exact ⟨0, hE_17, rfl, rfl⟩
                   ·rintro _ _ ⟨_, hE_17, _⟩
                    rw [laws_FnTrapSteps.l3.eq_1] at hE_17; cases hE_17
                   ·rintro n_4 _ _ ⟨x43rr, hE_17, rfl, rfl⟩ ih_4
                    rw [laws_FnTrapSteps.l3.eq_2] at hE_17
                    refine Tri.seq (Tri.seq (Tri.reg (l := [0, 1, 2, 3]) rfl ?_))
                    refine F.qn rfl rfl rfl rfl (r_move rfl) ?_
                    refine F.qn rfl rfl rfl rfl (r_move rfl) ?_
                    refine F.qn rfl rfl rfl rfl (r_len Try.underlying25 rfl hl_v257_3) ?_
                    refine F.qn rfl rfl rfl rfl (r_lss rfl rfl) ?_
                    refine F.nil (Nrm.seq (Tri.cond (b := decide (x43rr < (t257_1.length : Int))) rfl (fun g_25 => ?_) (fun g_25 => ?_)))
                    ·replace hE_17 := if_tt g_25 hE_17
                     refine Tri.skip (Nrm.seq (Tri.seq (Tri.block ?_)))
                     refine Tri.seq ?_
                     obtain ⟨t284, h284, hE_17⟩ := bind_some hE_17
                     obtain ⟨t292, h292, hE_17⟩ := bind_some hE_17
                     obtain ⟨t294, h294, hE_17⟩ := bind_some hE_17
                     obtain ⟨⟨t297_1, t297_2⟩, h297, hE_17⟩ := bind_some hE_17
                     refine Tri.drawA mixedT Sep.up [(0, true), (1, true), (2, true), (3, true), (4, true), (5, true), (6, true), (7, true), (8, true), (9, true), (10, true), (11, true), (12, true), (13, true), (14, true), (15, true), (16, true), (17, true), (18, true), (19, true), (20, true), (21, true)] [] (by kernel_rfl) ?_
                     refine S.qn rfl rfl rfl rfl (r_loadA ta66 ti66 rfl rfl (fun w hw => (box_cells (i := 0) rfl w hw))) ?_
                     refine S.qn rfl rfl rfl rfl (r_move rfl) ?_
                     refine S.qn rfl rfl rfl rfl (r_move rfl) ?_
                     refine S.qn rfl rfl rfl rfl (r_indexAddrS Try.underlying25 ti3 rfl hl_v257_3 rfl (rdl_some h284).1 (rdl_some h284).2.1) ?_
                     refine S.qn rfl rfl rfl rfl (r_load ta3 rfl (fun w hw => cell_0 (Rd.flat ((rd_sl (i := 1) rfl) w hw) (rdl_some h284).2.2) rfl)) ?_
                     refine S.qn rfl rfl rfl rfl (r_move rfl) ?_
                     refine S.qn rfl rfl rfl rfl (r_fieldAddr tf66_0 rfl) ?_
                     refine S.qn rfl rfl rfl rfl (r_fieldAddr tf27_2 rfl) ?_
                     refine S.qn rfl rfl rfl rfl (r_load ta25 rfl (fun w hw => cell_2 (box_cells (i := 0) rfl w hw) rfl)) ?_
                     refine S.qn rfl rfl rfl rfl (r_move rfl) ?_
                     refine S.qn rfl rfl rfl rfl (r_move rfl) ?_
                     refine S.qn rfl rfl rfl rfl (r_indexAddrS Try.underlying25 ti3 rfl hl_v257_3 rfl (rdl_some h292).1 (rdl_some h292).2.1) ?_
                     refine S.qn rfl rfl rfl rfl (r_load ta3 rfl (fun w hw => cell_0 (Rd.flat ((rd_sl (i := 1) rfl) w hw) (rdl_some h292).2.2) rfl)) ?_
                     refine S.qn rfl rfl rfl rfl (r_indexAddrS Try.underlying25 ti3 rfl hl_v50_2 rfl (rdl_some h294).1 (rdl_some h294).2.1) ?_
                     refine S.qn rfl rfl rfl rfl (r_load ta3 rfl (fun w hw => cell_0 (Rd.flat ((rd_sl (i := 3) rfl) w hw) (rdl_some h294).2.2) rfl)) ?_
                     refine S.qn rfl rfl rfl rfl (r_or rfl rfl) ?_
                     refine S.qcn rfl rfl rfl rfl (q_callF (xs := _) rfl ok57 rfl rfl (fun w hw => impl_IsGood.ok h297 w ((rd_sl (i := 2) rfl) w hw) ((rd_sl (i := 3) rfl) w hw) ((rd_sl (i := 4) rfl) w hw))) ?_
                     refine S.qn rfl rfl rfl rfl (r_move rfl) ?_
                     refine S.qn rfl rfl rfl rfl (r_extract rfl rfl) ?_
                     refine S.qn rfl rfl rfl rfl (r_extract rfl rfl) ?_
                     refine S.qn rfl rfl rfl rfl (r_assign rfl) ?_
                     refine S.qn rfl rfl rfl rfl (r_assign rfl) ?_
                     refine S.nil (F.nil (Nrm.seq (Tri.seq ?_)))
                     obtain ⟨y311rr, hE_18, hE_17⟩ := bind_some hE_17
                     refine Tri.cut (fun e' C' => e' = [(3, .pointer (some ⟨b3_1, 0, none⟩)), (5, v56_1), (37, .int .i64 t242_2), (41, v257_3), (43, .int .i64 x43rr), (311, .bool y311rr)] ∧ C' = Sep w noM [R.box b3_1 66 [.int .i64 t50_1, v50_1, v50_2, v50_3], R.sl S257_3 v257_3 (t257_1 : List (Int)), R.sl S50_1 v50_1 (t50_2 : List (Int × Int × Int)), R.sl S50_2 v50_2 (t50_3 : List (Int)), R.sl S50_3 v50_3 (t50_4 : List (Int)), R.sl S56_1 v56_1 (t56_1 : List (Int))]) ?_ (fun hj_14 => ?_)
                     ·rintro _ _ ⟨rfl, rfl⟩
                      refine Nrm.seq (Tri.cond (b := y311rr) rfl (fun g_26 => ?_) (fun g_26 => ?_))
                      ·replace hE_17 := if_tt g_26 hE_17
                       refine Tri.seq (Tri.reg (l := [0]) rfl ?_)
                       refine F.qn rfl rfl rfl rfl (r_assign rfl) ?_
                       refine F.nil (Nrm.seq (Tri.ret ?_))
                       refine Rtn.block ?_
                       refine Rtn.then ?_
                       refine Rtn.then ?_
                       refine Rtn.block ?_
                       refine Rtn.then ?_
                       cases hE_17
                       replace h := Lr_inr h
                       cases h
                       exact Rtn.body (.tmp rfl .nil) (fun w hw => ⟨rfl, hw.ext⟩)
                      ·replace hE_17 := if_ff g_26 hE_17
                       refine Tri.skip (Nrm.block ?_)
                       refine Nrm.seq (Tri.reg (l := [0, 1, 2]) rfl ?_)
                       refine F.qn rfl rfl rfl rfl (r_move rfl) ?_
                       refine F.qn rfl rfl rfl rfl (r_add rfl rfl) ?_
                       refine F.qn rfl rfl rfl rfl (r_assign rfl) ?_
                       refine F.nil (Nrm.round ?_)
                       refine Rnd.only [3, 5, 37, 41, 43] rfl ?_
                       refine Rnd.pick [0, 1, 2, 3, 4, 5] rfl rfl ?_
                       exact ih_4 _ _ ⟨w64 (x43rr + 1), hE_17, rfl, rfl⟩
                     ·rcases Bool.eq_false_or_eq_true (!t297_2) with g302 | g302
                      ·replace hE_18 := if_tt g302 hE_18
                       refine Tri.reg (l := List.range 12) rfl ?_
                       refine F.qn rfl rfl rfl rfl (r_move rfl) ?_
                       refine F.qn rfl rfl rfl rfl (r_not rfl) ?_
                       refine F.qn rfl rfl rfl rfl (r_move rfl) ?_
                       iterate 8 refine F.sk rfl rfl rfl (wf rfl rfl rfl g302) ?_
                       refine F.qn rfl rfl rfl rfl (r_pick rfl rfl g302) ?_
                       refine F.nil ?_
                       cases hE_18
                       refine Nrm.only [3, 5, 37, 41, 43, 311] rfl ?_
                       refine Nrm.pick [0, 1, 2, 3, 4, 5] rfl rfl ?_
                       exact hj_14 _ _ ⟨rfl, rfl⟩
                      ·replace hE_18 := if_ff g302 hE_18
                       obtain ⟨t306, h306, hE_18⟩ := bind_some hE_18
                       obtain ⟨t308, h308, hE_18⟩ := bind_some hE_18
                       refine Tri.reg (l := List.range 12) rfl ?_
                       refine F.qn rfl rfl rfl rfl (r_move rfl) ?_
                       refine F.qn rfl rfl rfl rfl (r_not rfl) ?_
                       refine F.qn rfl rfl rfl rfl (r_move rfl) ?_
                       iterate 3 refine F.qg rfl rfl rfl rfl rfl rfl g302 (r_move rfl) ?_
                       refine F.qg rfl rfl rfl rfl rfl rfl g302 (r_indexAddrS Try.underlying25 ti3 rfl hl_v257_3 rfl (rdl_some h306).1 (rdl_some h306).2.1) ?_
                       refine F.qg rfl rfl rfl rfl rfl rfl g302 (r_load ta3 rfl (fun w hw => cell_0 (Rd.flat ((rd_sl (i := 1) rfl) w hw) (rdl_some h306).2.2) rfl)) ?_
                       refine F.qc rfl rfl rfl (wg rfl rfl rfl g302) (q_callF (xs := _) rfl ok63 rfl rfl (fun w hw => laws_rHas.ok h308 w ((rd_sl (i := 5) rfl) w hw))) ?_
                       refine F.qg rfl rfl rfl rfl rfl rfl g302 (r_move rfl) ?_
                       refine F.qg rfl rfl rfl rfl rfl rfl g302 (r_neqB Try.underlying4 rfl rfl) ?_
                       refine F.qn rfl rfl rfl rfl (r_pickf rfl rfl g302) ?_
                       refine F.nil ?_
                       cases hE_18
                       refine Nrm.only [3, 5, 37, 41, 43, 311] rfl ?_
                       refine Nrm.pick [0, 1, 2, 3, 4, 5] rfl rfl ?_
                       exact hj_14 _ _ ⟨rfl, rfl⟩
                    ·replace hE_17 := if_ff g_25 hE_17
                     refine Tri.exit ?_
                     refine Exi.then ?_
                     refine Exi.then ?_
                     refine Exi.same ?_
                     cases hE_17
                     replace h := Lr_inl h
                     refine Nrm.seq (Tri.seq (Tri.reg (l := [0, 1, 2, 3, 4, 5]) rfl ?_))
                     refine F.qn rfl rfl rfl rfl (r_move rfl) ?_
                     refine F.qn rfl rfl rfl rfl (r_len Try.underlying25 rfl hl_v56_1) ?_
                     refine F.qn rfl rfl rfl rfl (r_move rfl) ?_
                     refine F.qn rfl rfl rfl rfl (r_len Try.underlying25 rfl hl_v257_3) ?_
                     refine F.qn rfl rfl rfl rfl (r_leq rfl rfl) ?_
                     refine F.qn rfl rfl rfl rfl (r_assign rfl) ?_
                     refine F.nil (Nrm.seq (Tri.ret ?_))
                     cases h
                     exact Rtn.body (.tmp rfl .nil) (fun w hw => ⟨rfl, hw.ext⟩)
                 ·rcases Bool.eq_false_or_eq_true (!t242_3) with g262 | g262
                  ·replace hE_16 := if_tt g262 hE_16
                   refine Tri.reg (l := List.range 14) rfl ?_
                   refine F.qn rfl rfl rfl rfl (r_move rfl) ?_
                   refine F.qn rfl rfl rfl rfl (r_not rfl) ?_
                   refine F.qn rfl rfl rfl rfl (r_move rfl) ?_
                   refine F.sk rfl rfl rfl (wf rfl rfl rfl g262) ?_
                   refine F.sk rfl rfl rfl (wf rfl rfl rfl g262) ?_
                   refine F.qn rfl rfl rfl rfl (r_pick rfl rfl g262) ?_
                   refine F.qn rfl rfl rfl rfl (r_move rfl) ?_
                   refine F.sk rfl rfl rfl (wf rfl rfl rfl rfl) ?_
                   refine F.sk rfl rfl rfl (wf rfl rfl rfl rfl) ?_
                   refine F.qn rfl rfl rfl rfl (r_pick rfl rfl rfl) ?_
                   refine F.qn rfl rfl rfl rfl (r_move rfl) ?_
                   refine F.sk rfl rfl rfl (wf rfl rfl rfl rfl) ?_
                   refine F.sk rfl rfl rfl (wf rfl rfl rfl rfl) ?_
                   refine F.qn rfl rfl rfl rfl (r_pick rfl rfl rfl) ?_
                   refine F.nil ?_
                   cases hE_16
                   refine Nrm.only [3, 5, 37, 41, 273] rfl ?_
                   refine Nrm.pick [1, 0, 2, 3, 4, 6] rfl rfl ?_
                   exact hj_13 _ _ ⟨rfl, rfl⟩
                  ·replace hE_16 := if_ff g262 hE_16
                   rcases Bool.eq_false_or_eq_true (!t250_2) with g266 | g266
                   ·replace hE_16 := if_tt g266 hE_16
                    refine Tri.reg (l := List.range 14) rfl ?_
                    refine F.qn rfl rfl rfl rfl (r_move rfl) ?_
                    refine F.qn rfl rfl rfl rfl (r_not rfl) ?_
                    refine F.qn rfl rfl rfl rfl (r_move rfl) ?_
                    refine F.qg rfl rfl rfl rfl rfl rfl g262 (r_move rfl) ?_
                    refine F.qg rfl rfl rfl rfl rfl rfl g262 (r_not rfl) ?_
                    refine F.qn rfl rfl rfl rfl (r_pickf rfl rfl g262) ?_
                    refine F.qn rfl rfl rfl rfl (r_move rfl) ?_
                    refine F.sk rfl rfl rfl (wf rfl rfl rfl g266) ?_
                    refine F.sk rfl rfl rfl (wf rfl rfl rfl g266) ?_
                    refine F.qn rfl rfl rfl rfl (r_pick rfl rfl g266) ?_
                    refine F.qn rfl rfl rfl rfl (r_move rfl) ?_
                    refine F.sk rfl rfl rfl (wf rfl rfl rfl rfl) ?_
                    refine F.sk rfl rfl rfl (wf rfl rfl rfl rfl) ?_
                    refine F.qn rfl rfl rfl rfl (r_pick rfl rfl rfl) ?_
                    refine F.nil ?_
                    cases hE_16
                    refine Nrm.only [3, 5, 37, 41, 273] rfl ?_
                    refine Nrm.pick [1, 0, 2, 3, 4, 6] rfl rfl ?_
                    exact hj_13 _ _ ⟨rfl, rfl⟩
                   ·replace hE_16 := if_ff g266 hE_16
                    rcases Bool.eq_false_or_eq_true (!t257_2) with g270 | g270
                    ·replace hE_16 := if_tt g270 hE_16
                     refine Tri.reg (l := List.range 14) rfl ?_
                     refine F.qn rfl rfl rfl rfl (r_move rfl) ?_
                     refine F.qn rfl rfl rfl rfl (r_not rfl) ?_
                     refine F.qn rfl rfl rfl rfl (r_move rfl) ?_
                     refine F.qg rfl rfl rfl rfl rfl rfl g262 (r_move rfl) ?_
                     refine F.qg rfl rfl rfl rfl rfl rfl g262 (r_not rfl) ?_
                     refine F.qn rfl rfl rfl rfl (r_pickf rfl rfl g262) ?_
                     refine F.qn rfl rfl rfl rfl (r_move rfl) ?_
                     refine F.qg rfl rfl rfl rfl rfl rfl g266 (r_move rfl) ?_
                     refine F.qg rfl rfl rfl rfl rfl rfl g266 (r_not rfl) ?_
                     refine F.qn rfl rfl rfl rfl (r_pickf rfl rfl g266) ?_
                     refine F.qn rfl rfl rfl rfl (r_move rfl) ?_
                     refine F.sk rfl rfl rfl (wf rfl rfl rfl g270) ?_
                     refine F.sk rfl rfl rfl (wf rfl rfl rfl g270) ?_
                     refine F.qn rfl rfl rfl rfl (r_pick rfl rfl g270) ?_
                     refine F.nil ?_
                     cases hE_16
                     refine Nrm.only [3, 5, 37, 41, 273] rfl ?_
                     refine Nrm.pick [1, 0, 2, 3, 4, 6] rfl rfl ?_
                     exact hj_13 _ _ ⟨rfl, rfl⟩
                    ·replace hE_16 := if_ff g270 hE_16
                     refine Tri.reg (l := List.range 14) rfl ?_
                     refine F.qn rfl rfl rfl rfl (r_move rfl) ?_
                     refine F.qn rfl rfl rfl rfl (r_not rfl) ?_
                     refine F.qn rfl rfl rfl rfl (r_move rfl) ?_
                     refine F.qg rfl rfl rfl rfl rfl rfl g262 (r_move rfl) ?_
                     refine F.qg rfl rfl rfl rfl rfl rfl g262 (r_not rfl) ?_
                     refine F.qn rfl rfl rfl rfl (r_pickf rfl rfl g262) ?_
                     refine F.qn rfl rfl rfl rfl (r_move rfl) ?_
                     refine F.qg rfl rfl rfl rfl rfl rfl g266 (r_move rfl) ?_
                     refine F.qg rfl rfl rfl rfl rfl rfl g266 (r_not rfl) ?_
                     refine F.qn rfl rfl rfl rfl (r_pickf rfl rfl g266) ?_
                     refine F.qn rfl rfl rfl rfl (r_move rfl) ?_
                     refine F.qg rfl rfl rfl rfl rfl rfl g270 (r_move rfl) ?_
                     refine F.qg rfl rfl rfl rfl rfl rfl g270 (r_not rfl) ?_
                     refine F.qn rfl rfl rfl rfl (r_pickf rfl rfl g270) ?_
                     refine F.nil ?_
                     cases hE_16
                     refine Nrm.only [3, 5, 37, 41, 273] rfl ?_
                     refine Nrm.pick [1, 0, 2, 3, 4, 6] rfl rfl ?_
                     exact hj_13 _ _ ⟨rfl, rfl⟩
              ·rcases Bool.eq_false_or_eq_true (!t224_3) with g230 | g230
               ·replace hE_15 := if_tt g230 hE_15
                refine Tri.reg (l := [0, 1, 2, 3, 4, 5, 6, 7, 8]) rfl ?_
                refine F.qn rfl rfl rfl rfl (r_move rfl) ?_
                refine F.qn rfl rfl rfl rfl (r_not rfl) ?_
                refine F.qn rfl rfl rfl rfl (r_move rfl) ?_
                iterate 5 refine F.sk rfl rfl rfl (wf rfl rfl rfl g230) ?_
                refine F.qn rfl rfl rfl rfl (r_pick rfl rfl g230) ?_
                refine F.nil ?_
                cases hE_15
                refine Nrm.only [3, 4, 5, 6, 236] rfl ?_
                refine Nrm.pick [2, 11, 12, 13, 14, 15] rfl rfl ?_
                exact hj_12 _ _ ⟨rfl, rfl⟩
               ·replace hE_15 := if_ff g230 hE_15
                obtain ⟨t232, h232, hE_15⟩ := bind_some hE_15
                refine Tri.reg (l := [0, 1, 2, 3, 4, 5, 6, 7, 8]) rfl ?_
                refine F.qn rfl rfl rfl rfl (r_move rfl) ?_
                refine F.qn rfl rfl rfl rfl (r_not rfl) ?_
                refine F.qn rfl rfl rfl rfl (r_move rfl) ?_
                refine F.qg rfl rfl rfl rfl rfl rfl g230 (r_move rfl) ?_
                refine F.qc rfl rfl rfl (wg rfl rfl rfl g230) (q_callF (xs := _) rfl ok63 rfl rfl (fun w hw => laws_rHas.ok h232 w ((rd_sl (i := 10) rfl) w hw))) ?_
                refine F.qg rfl rfl rfl rfl rfl rfl g230 (r_move rfl) ?_
                refine F.qg rfl rfl rfl rfl rfl rfl g230 (r_eql rfl rfl) ?_
                refine F.qg rfl rfl rfl rfl rfl rfl g230 (r_neqB Try.underlying4 rfl rfl) ?_
                refine F.qn rfl rfl rfl rfl (r_pickf rfl rfl g230) ?_
                refine F.nil ?_
                cases hE_15
                refine Nrm.only [3, 4, 5, 6, 236] rfl ?_
                refine Nrm.pick [2, 11, 12, 13, 14, 15] rfl rfl ?_
                exact hj_12 _ _ ⟨rfl, rfl⟩
             ·replace h := if_ff g_21 h
              refine Tri.skip (Nrm.seq (Tri.seq (Tri.seq (Tri.reg (l := [0, 1]) rfl ?_))))
              refine F.qn rfl rfl rfl rfl (r_move rfl) ?_
              refine F.qn rfl rfl rfl rfl (r_not rfl) ?_
              refine F.nil (Nrm.seq (Tri.cond (b := !t56_2) rfl (fun g_27 => ?_) (fun g_27 => ?_)))
              ·replace h := if_tt g_27 h
               refine Tri.seq (Tri.reg (l := [0]) rfl ?_)
               refine F.qn rfl rfl rfl rfl (r_assign rfl) ?_
               refine F.nil (Nrm.seq (Tri.ret ?_))
               refine Rtn.then ?_
               cases h
               exact Rtn.body (.tmp rfl .nil) (fun w hw => ⟨rfl, hw.ext⟩)
              ·replace h := if_ff g_27 h
               refine Tri.skip (Nrm.seq (Tri.seq ?_))
               obtain ⟨⟨t242_1, t242_2, t242_3⟩, h242, h⟩ := bind_some h
               refine Tri.reg (l := [0, 1, 2, 3, 4, 5, 6, 7, 8, 9]) rfl ?_
               refine F.qn rfl rfl rfl rfl (r_loadA ta66 ti66 rfl rfl (fun w hw => (box_cells (i := 2) rfl w hw))) ?_
               refine F.qn rfl rfl rfl rfl (r_move rfl) ?_
               refine F.qcn rfl rfl rfl rfl (q_callF (xs := _) rfl ok64 rfl rfl (fun w hw => impl_StateBehind.ok h242 w ((rd_sl (i := 11) rfl) w hw) ((rd_sl (i := 12) rfl) w hw) ((rd_sl (i := 13) rfl) w hw) ((rd_sl (i := 14) rfl) w hw))) ?_
               refine F.qn rfl rfl rfl rfl (r_move rfl) ?_
               iterate 3 refine F.qn rfl rfl rfl rfl (r_extract rfl rfl) ?_
               iterate 3 refine F.qn rfl rfl rfl rfl (r_assign rfl) ?_
               refine F.nil (Nrm.seq (Tri.seq ?_))
               obtain ⟨⟨t250_1, t250_2⟩, h250, h⟩ := bind_some h
               refine Tri.reg (l := [0, 1, 2, 3, 4, 5, 6, 7, 8]) rfl ?_
               refine F.qn rfl rfl rfl rfl (r_fieldAddr tf66_0 rfl) ?_
               refine F.qn rfl rfl rfl rfl (r_loadA ta27 ti27 rfl rfl (fun w hw => cells_1 (cs' := [.int .i64 t50_1, v50_1, v50_2]) (box_cells (i := 2) rfl w hw) rfl)) ?_
               refine F.qn rfl rfl rfl rfl (r_move rfl) ?_
               refine F.qcn rfl rfl rfl rfl (q_callF (xs := _) rfl ok65 rfl rfl (fun w hw => impl_IsKeyWalk.ok h250 w ((rd_sl (i := 11) rfl) w hw) ((rd_sl (i := 12) rfl) w hw) ((rd_sl (i := 14) rfl) w hw))) ?_
               refine F.qn rfl rfl rfl rfl (r_move rfl) ?_
               refine F.qn rfl rfl rfl rfl (r_extract rfl rfl) ?_
               refine F.qn rfl rfl rfl rfl (r_extract rfl rfl) ?_
               refine F.qn rfl rfl rfl rfl (r_assign rfl) ?_
               refine F.qn rfl rfl rfl rfl (r_assign rfl) ?_
               refine F.nil (Nrm.seq (Tri.seq ?_))
               obtain ⟨⟨t257_1, t257_2⟩, h257, h⟩ := bind_some h
               refine Tri.reg (l := [0, 1, 2, 3, 4, 5, 6, 7, 8]) rfl ?_
               refine F.qn rfl rfl rfl rfl (r_loadA ta66 ti66 rfl rfl (fun w hw => (box_cells (i := 2) rfl w hw))) ?_
               refine F.qn rfl rfl rfl rfl (r_move rfl) ?_
               refine F.qn rfl rfl rfl rfl (r_move rfl) ?_
               refine F.mn rfl rfl rfl rfl (m_callF (xs := _) rfl ok55 rfl rfl (fun w hw => impl_StepsFrom.ok h257 w ((rd_sl (i := 11) rfl) w hw) ((rd_sl (i := 12) rfl) w hw) ((rd_sl (i := 13) rfl) w hw))) ?_
               rintro _ _ ⟨_, ⟨v257_4, S257_4, rfl, hl_v257_4, rfl⟩, rfl⟩
               refine F.qn rfl rfl rfl rfl (r_move rfl) ?_
               refine F.qn rfl rfl rfl rfl (r_extract rfl rfl) ?_
               refine F.qn rfl rfl rfl rfl (r_extract rfl rfl) ?_
               refine F.qn rfl rfl rfl rfl (r_assign rfl) ?_
               refine F.qn rfl rfl rfl rfl (r_assign rfl) ?_
               refine F.nil (Nrm.seq (Tri.seq (Tri.seq ?_)))
               obtain ⟨y273rrr, hE_19, h⟩ := bind_some h
               refine Tri.cut (fun e' C' => e' = [(3, .pointer (some ⟨b3_1, 0, none⟩)), (5, v56_1), (37, .int .i64 t242_2), (41, v257_4), (273, .bool y273rrr)] ∧ C' = Sep w noM [R.box b3_1 66 [.int .i64 t50_1, v50_1, v50_2, v50_3], R.sl S257_4 v257_4 (t257_1 : List (Int)), R.sl S50_1 v50_1 (t50_2 : List (Int × Int × Int)), R.sl S50_2 v50_2 (t50_3 : List (Int)), R.sl S50_3 v50_3 (t50_4 : List (Int)), R.sl S56_1 v56_1 (t56_1 : List (Int))]) ?_ (fun hj_15 => ?_)
               ·rintro _ _ ⟨rfl, rfl⟩
                refine Nrm.seq (Tri.cond (b := y273rrr) rfl (fun g_28 => ?_) (fun g_28 => ?_))
                ·replace h := if_tt g_28 h
                 refine Tri.seq (Tri.reg (l := [0]) rfl ?_)
                 refine F.qn rfl rfl rfl rfl (r_assign rfl) ?_
                 refine F.nil (Nrm.seq (Tri.ret ?_))
                 refine Rtn.then ?_
                 cases h
                 exact Rtn.body (.tmp rfl .nil) (fun w hw => ⟨rfl, hw.ext⟩)
                ·replace h := if_ff g_28 h
                 refine Tri.skip (Nrm.seq (Tri.seq (Tri.seq (Tri.reg (l := [0]) rfl ?_))))
                 refine F.qn rfl rfl rfl rfl (r_assign rfl) ?_
                 refine F.nil (Nrm.seq ?_)
                 obtain ⟨s4, hE_20, h⟩ := bind_some h
                 refine Tri.block ?_
                 refine Tri.only [3, 5, 37, 41, 43] rfl ?_
                 refine Tri.pick [0, 1, 2, 3, 4, 5] rfl rfl ?_
                 refine Tri.rounds (fun n e' C' => ∃ (x43rrr' : Int), laws_FnTrapSteps.l4 k t50_1 t50_2 t50_3 t50_4 t56_1 t242_2 t257_1 n x43rrr' = some s4 ∧ e' = [(3, .pointer (some ⟨b3_1, 0, none⟩)), (5, v56_1), (37, .int .i64 t242_2), (41, v257_4), (43, .int .i64 x43rrr')] ∧ C' = Sep w noM [R.box b3_1 66 [.int .i64 t50_1, v50_1, v50_2, v50_3], R.sl S257_4 v257_4 (t257_1 : List (Int)), R.sl S50_1 v50_1 (t50_2 : List (Int × Int × Int)), R.sl S50_2 v50_2 (t50_3 : List (Int)), R.sl S50_3 v50_3 (t50_4 : List (Int)), R.sl S56_1 v56_1 (t56_1 : List (Int))]) k ?_ ?_ ?_
                 ·exact ⟨0, hE_20, rfl, rfl⟩
                 ·rintro _ _ ⟨_, hE_20, _⟩
                  rw [laws_FnTrapSteps.l4.eq_1] at hE_20; cases hE_20
                 ·rintro n_5 _ _ ⟨x43rrr, hE_20, rfl, rfl⟩ ih_5
                  rw [laws_FnTrapSteps.l4.eq_2] at hE_20
                  refine Tri.seq (Tri.seq (Tri.reg (l := [0, 1, 2, 3]) rfl ?_))
                  refine F.qn rfl rfl rfl rfl (r_move rfl) ?_
                  refine F.qn rfl rfl rfl rfl (r_move rfl) ?_
                  refine F.qn rfl rfl rfl rfl (r_len Try.underlying25 rfl hl_v257_4) ?_
                  refine F.qn rfl rfl rfl rfl (r_lss rfl rfl) ?_
                  refine F.nil (Nrm.seq (Tri.cond (b := decide (x43rrr < (t257_1.length : Int))) rfl (fun g_29 => ?_) (fun g_29 => ?_)))
                  ·replace hE_20 := if_tt g_29 hE_20
                   refine Tri.skip (Nrm.seq (Tri.seq (Tri.block ?_)))
                   refine Tri.seq ?_
                   obtain ⟨t284, h284, hE_20⟩ := bind_some hE_20
                   obtain ⟨t292, h292, hE_20⟩ := bind_some hE_20
                   obtain ⟨t294, h294, hE_20⟩ := bind_some hE_20
                   obtain ⟨⟨t297_1, t297_2⟩, h297, hE_20⟩ := bind_some hE_20
                   refine Tri.drawA mixedT Sep.up [(0, true), (1, true), (2, true), (3, true), (4, true), (5, true), (6, true), (7, true), (8, true), (9, true), (10, true), (11, true), (12, true), (13, true), (14, true), (15, true), (16, true), (17, true), (18, true), (19, true), (20, true), (21, true)] [] (by kernel_rfl) ?_
                   refine S.qn rfl rfl rfl rfl (r_loadA ta66 ti66 rfl rfl (fun w hw => (box_cells (i := 0) rfl w hw))) ?_
                   refine S.qn rfl rfl rfl rfl (r_move rfl) ?_
                   refine S.qn rfl rfl rfl rfl (r_move rfl) ?_
                   refine S.qn rfl rfl rfl rfl (r_indexAddrS Try.underlying25 ti3 rfl hl_v257_4 rfl (rdl_some h284).1 (rdl_some h284).2.1) ?_
                   refine S.qn rfl rfl rfl rfl (r_load ta3 rfl (fun w hw => cell_0 (Rd.flat ((rd_sl (i := 1) rfl) w hw) (rdl_some h284).2.2) rfl)) ?_
                   refine S.qn rfl rfl rfl rfl (r_move rfl) ?_
                   refine S.qn rfl rfl rfl rfl (r_fieldAddr tf66_0 rfl) ?_
                   refine S.qn rfl rfl rfl rfl (r_fieldAddr tf27_2 rfl) ?_
                   refine S.qn rfl rfl rfl rfl (r_load ta25 rfl (fun w hw => cell_2 (box_cells (i := 0) rfl w hw) rfl)) ?_
                   refine S.qn rfl rfl rfl rfl (r_move rfl) ?_
                   refine S.qn rfl rfl rfl rfl (r_move rfl) ?_
                   refine S.qn rfl rfl rfl rfl (r_indexAddrS Try.underlying25 ti3 rfl hl_v257_4 rfl (rdl_some h292).1 (rdl_some h292).2.1) ?_
                   refine S.qn rfl rfl rfl rfl (r_load ta3 rfl (fun w hw => cell_0 (Rd.flat ((rd_sl (i := 1) rfl) w hw) (rdl_some h292).2.2) rfl)) ?_
                   refine S.qn rfl rfl rfl rfl (r_indexAddrS Try.underlying25 ti3 rfl hl_v50_2 rfl (rdl_some h294).1 (rdl_some h294).2.1) ?_
                   refine S.qn rfl rfl rfl rfl (r_load ta3 rfl (fun w hw => cell_0 (Rd.flat ((rd_sl (i := 3) rfl) w hw) (rdl_some h294).2.2) rfl)) ?_
                   refine S.qn rfl rfl rfl rfl (r_or rfl rfl) ?_
                   refine S.qcn rfl rfl rfl rfl (q_callF (xs := _) rfl ok57 rfl rfl (fun w hw => impl_IsGood.ok h297 w ((rd_sl (i := 2) rfl) w hw) ((rd_sl (i := 3) rfl) w hw) ((rd_sl (i := 4) rfl) w hw))) ?_
                   refine S.qn rfl rfl rfl rfl (r_move rfl) ?_
                   refine S.qn rfl rfl rfl rfl (r_extract rfl rfl) ?_
                   refine S.qn rfl rfl rfl rfl (r_extract rfl rfl) ?_
                   refine S.qn rfl rfl rfl rfl (r_assign rfl) ?_
                   refine S.qn rfl rfl rfl rfl (r_assign rfl) ?_
                   refine S.nil (F.nil (Nrm.seq (Tri.seq ?_)))
                   obtain ⟨y311rrr, hE_21, hE_20⟩ := bind_some hE_20
                   refine Tri.cut (fun e' C' => e' = [(3, .pointer (some ⟨b3_1, 0, none⟩)), (5, v56_1), (37, .int .i64 t242_2), (41, v257_4), (43, .int .i64 x43rrr), (311, .bool y311rrr)] ∧ C' = Sep w noM [R.box b3_1 66 [.int .i64 t50_1, v50_1, v50_2, v50_3], R.sl S257_4 v257_4 (t257_1 : List (Int)), R.sl S50_1 v50_1 (t50_2 : List (Int × Int × Int)), R.sl S50_2 v50_2 (t50_3 : List (Int)), R.sl S50_3 v50_3 (t50_4 : List (Int)), R.sl S56_1 v56_1 (t56_1 : List (Int))]) ?_ (fun hj_16 => ?_)
                   ·rintro _ _ ⟨rfl, rfl⟩
                    refine Nrm.seq (Tri.cond (b := y311rrr) rfl (fun g_30 => ?_) (fun g_30 => ?_))
                    ·replace hE_20 := if_tt g_30 hE_20
                     refine Tri.seq (Tri.reg (l := [0]) rfl ?_)
                     refine F.qn rfl rfl rfl rfl (r_assign rfl) ?_
                     refine F.nil (Nrm.seq (Tri.ret ?_))
                     refine Rtn.block ?_
                     refine Rtn.then ?_
                     refine Rtn.then ?_
                     refine Rtn.block ?_
                     refine Rtn.then ?_
                     cases hE_20
                     replace h := Lr_inr h
                     cases h
                     exact Rtn.body (.tmp rfl .nil) (fun w hw => ⟨rfl, hw.ext⟩)
                    ·replace hE_20 := if_ff g_30 hE_20
                     refine Tri.skip (Nrm.block ?_)
                     refine Nrm.seq (Tri.reg (l := [0, 1, 2]) rfl ?_)
                     refine F.qn rfl rfl rfl rfl (r_move rfl) ?_
                     refine F.qn rfl rfl rfl rfl (r_add rfl rfl) ?_
                     refine F.qn rfl rfl rfl rfl (r_assign rfl) ?_
                     refine F.nil (Nrm.round ?_)
                     refine Rnd.only [3, 5, 37, 41, 43] rfl ?_
                     refine Rnd.pick [0, 1, 2, 3, 4, 5] rfl rfl ?_
                     exact ih_5 _ _ ⟨w64 (x43rrr + 1), hE_20, rfl, rfl⟩
                   ·rcases Bool.eq_false_or_eq_true (!t297_2) with g302 | g302
                    ·replace hE_21 := if_tt g302 hE_21
                     refine Tri.reg (l := List.range 12) rfl ?_
                     refine F.qn rfl rfl rfl rfl (r_move rfl) ?_
                     refine F.qn rfl rfl rfl rfl (r_not rfl) ?_
                     refine F.qn rfl rfl rfl rfl (r_move rfl) ?_
                     iterate 8 refine F.sk rfl rfl rfl (wf rfl rfl rfl g302) ?_
                     refine F.qn rfl rfl rfl rfl (r_pick rfl rfl g302) ?_
                     refine F.nil ?_
                     cases hE_21
                     refine Nrm.only [3, 5, 37, 41, 43, 311] rfl ?_
                     refine Nrm.pick [0, 1, 2, 3, 4, 5] rfl rfl ?_
                     exact hj_16 _ _ ⟨rfl, rfl⟩
                    ·replace hE_21 := if_ff g302 hE_21
                     obtain ⟨t306, h306, hE_21⟩ := bind_some hE_21
                     obtain ⟨t308, h308, hE_21⟩ := bind_some hE_21
                     refine Tri.reg (l := List.range 12) rfl ?_
                     refine F.qn rfl rfl rfl rfl (r_move rfl) ?_
                     refine F.qn rfl rfl rfl rfl (r_not rfl) ?_
                     refine F.qn rfl rfl rfl rfl (r_move rfl) ?_
                     iterate 3 refine F.qg rfl rfl rfl rfl rfl rfl g302 (r_move rfl) ?_
                     refine F.qg rfl rfl rfl rfl rfl rfl g302 (r_indexAddrS Try.underlying25 ti3 rfl hl_v257_4 rfl (rdl_some h306).1 (rdl_some h306).2.1) ?_
                     refine F.qg rfl rfl rfl rfl rfl rfl g302 (r_load ta3 rfl (fun w hw => cell_0 (Rd.flat ((rd_sl (i := 1) rfl) w hw) (rdl_some h306).2.2) rfl)) ?_
                     refine F.qc rfl rfl rfl (wg rfl rfl rfl g302) (q_callF (xs := _) rfl ok63 rfl rfl (fun w hw => laws_rHas.ok h308 w ((rd_sl (i := 5) rfl) w hw))) ?_
                     refine F.qg rfl rfl rfl rfl rfl rfl g302 (r_move rfl) ?_
                     refine F.qg rfl rfl rfl rfl rfl rfl g302 (r_neqB Try.underlying4 rfl rfl) ?_
                     refine F.qn rfl rfl rfl rfl (r_pickf rfl rfl g302) ?_
                     refine F.nil ?_
                     cases hE_21
                     refine Nrm.only [3, 5, 37, 41, 43, 311] rfl ?_
                     refine Nrm.pick [0, 1, 2, 3, 4, 5] rfl rfl ?_
                     exact hj_16 _ _ ⟨rfl, rfl⟩
                  ·replace hE_20 := if_ff g_29 hE_20
                   refine Tri.exit ?_
                   refine Exi.then ?_
                   refine Exi.then ?_
                   refine Exi.same ?_
                   cases hE_20
                   replace h := Lr_inl h
                   refine Nrm.seq (Tri.seq (Tri.reg (l := [0, 1, 2, 3, 4, 5]) rfl ?_))
                   refine F.qn rfl rfl rfl rfl (r_move rfl) ?_
                   refine F.qn rfl rfl rfl rfl (r_len Try.underlying25 rfl hl_v56_1) ?_
                   refine F.qn rfl rfl rfl rfl (r_move rfl) ?_
                   refine F.qn rfl rfl rfl rfl (r_len Try.underlying25 rfl hl_v257_4) ?_
                   refine F.qn rfl rfl rfl rfl (r_leq rfl rfl) ?_
                   refine F.qn rfl rfl rfl rfl (r_assign rfl) ?_
                   refine F.nil (Nrm.seq (Tri.ret ?_))
                   cases h
                   exact Rtn.body (.tmp rfl .nil) (fun w hw => ⟨rfl, hw.ext⟩)
               ·rcases Bool.eq_false_or_eq_true (!t242_3) with g262 | g262
                ·replace hE_19 := if_tt g262 hE_19
                 refine Tri.reg (l := List.range 14) rfl ?_
                 refine F.qn rfl rfl rfl rfl (r_move rfl) ?_
                 refine F.qn rfl rfl rfl rfl (r_not rfl) ?_
                 refine F.qn rfl rfl rfl rfl (r_move rfl) ?_
                 refine F.sk rfl rfl rfl (wf rfl rfl rfl g262) ?_
                 refine F.sk rfl rfl rfl (wf rfl rfl rfl g262) ?_
                 refine F.qn rfl rfl rfl rfl (r_pick rfl rfl g262) ?_
                 refine F.qn rfl rfl rfl rfl (r_move rfl) ?_
                 refine F.sk rfl rfl rfl (wf rfl rfl rfl rfl) ?_
                 refine F.sk rfl rfl rfl (wf rfl rfl rfl rfl) ?_
                 refine F.qn rfl rfl rfl rfl (r_pick rfl rfl rfl) ?_
                 refine F.qn rfl rfl rfl rfl (r_move rfl) ?_
                 refine F.sk rfl rfl rfl (wf rfl rfl rfl rfl) ?_
                 refine F.sk rfl rfl rfl (wf rfl rfl rfl rfl) ?_
                 refine F.qn rfl rfl rfl rfl (r_pick rfl rfl rfl) ?_
                 refine F.nil ?_
                 cases hE_19
                 refine Nrm.only [3, 5, 37, 41, 273] rfl ?_
                 refine Nrm.pick [3, 0, 12, 13, 14, 16] rfl rfl ?_
                 exact hj_15 _ _ ⟨rfl, rfl⟩
                ·replace hE_19 := if_ff g262 hE_19
                 rcases Bool.eq_false_or_eq_true (!t250_2) with g266 | g266
                 ·replace hE_19 := if_tt g266 hE_19
                  refine Tri.reg (l := List.range 14) rfl ?_
                  refine F.qn rfl rfl rfl rfl (r_move rfl) ?_
                  refine F.qn rfl rfl rfl rfl (r_not rfl) ?_
                  refine F.qn rfl rfl rfl rfl (r_move rfl) ?_
                  refine F.qg rfl rfl rfl rfl rfl rfl g262 (r_move rfl) ?_
                  refine F.qg rfl rfl rfl rfl rfl rfl g262 (r_not rfl) ?_
                  refine F.qn rfl rfl rfl rfl (r_pickf rfl rfl g262) ?_
                  refine F.qn rfl rfl rfl rfl (r_move rfl) ?_
                  refine F.sk rfl rfl rfl (wf rfl rfl rfl g266) ?_
                  refine F.sk rfl rfl rfl (wf rfl rfl rfl g266) ?_
                  refine F.qn rfl rfl rfl rfl (r_pick rfl rfl g266) ?_
                  refine F.qn rfl rfl rfl rfl (r_move rfl) ?_
                  refine F.sk rfl rfl rfl (wf rfl rfl rfl rfl) ?_
                  refine F.sk rfl rfl rfl (wf rfl rfl rfl rfl) ?_
                  refine F.qn rfl rfl rfl rfl (r_pick rfl rfl rfl) ?_
                  refine F.nil ?_
                  cases hE_19
                  refine Nrm.only [3, 5, 37, 41, 273] rfl ?_
                  refine Nrm.pick [3, 0, 12, 13, 14, 16] rfl rfl ?_
                  exact hj_15 _ _ ⟨rfl, rfl⟩
                 ·replace hE_19 := if_ff g266 hE_19
                  rcases Bool.eq_false_or_eq_true (!t257_2) with g270 | g270
                  ·replace hE_19 := if_tt g270 hE_19
                   refine Tri.reg (l := List.range 14) rfl ?_
                   refine F.qn rfl rfl rfl rfl (r_move rfl) ?_
                   refine F.qn rfl rfl rfl rfl (r_not rfl) ?_
                   refine F.qn rfl rfl rfl rfl (r_move rfl) ?_
                   refine F.qg rfl rfl rfl rfl rfl rfl g262 (r_move rfl) ?_
                   refine F.qg rfl rfl rfl rfl rfl rfl g262 (r_not rfl) ?_
                   refine F.qn rfl rfl rfl rfl (r_pickf rfl rfl g262) ?_
                   refine F.qn rfl rfl rfl rfl (r_move rfl) ?_
                   refine F.qg rfl rfl rfl rfl rfl rfl g266 (r_move rfl) ?_
                   refine F.qg rfl rfl rfl rfl rfl rfl g266 (r_not rfl) ?_
                   refine F.qn rfl rfl rfl rfl (r_pickf rfl rfl g266) ?_
                   refine F.qn rfl rfl rfl rfl (r_move rfl) ?_
                   refine F.sk rfl rfl rfl (wf rfl rfl rfl g270) ?_
                   refine F.sk rfl rfl rfl (wf rfl rfl rfl g270) ?_
                   refine F.qn rfl rfl rfl rfl (r_pick rfl rfl g270) ?_
                   refine F.nil ?_
                   cases hE_19
                   refine Nrm.only [3, 5, 37, 41, 273] rfl ?_
                   refine Nrm.pick [3, 0, 12, 13, 14, 16] rfl rfl ?_
                   exact hj_15 _ _ ⟨rfl, rfl⟩
                  ·replace hE_19 := if_ff g270 hE_19
                   refine Tri.reg (l := List.range 14) rfl ?_
                   refine F.qn rfl rfl rfl rfl (r_move rfl) ?_
                   refine F.qn rfl rfl rfl rfl (r_not rfl) ?_
                   refine F.qn rfl rfl rfl rfl (r_move rfl) ?_
                   refine F.qg rfl rfl rfl rfl rfl rfl g262 (r_move rfl) ?_
                   refine F.qg rfl rfl rfl rfl rfl rfl g262 (r_not rfl) ?_
                   refine F.qn rfl rfl rfl rfl (r_pickf rfl rfl g262) ?_
                   refine F.qn rfl rfl rfl rfl (r_move rfl) ?_
                   refine F.qg rfl rfl rfl rfl rfl rfl g266 (r_move rfl) ?_
                   refine F.qg rfl rfl rfl rfl rfl rfl g266 (r_not rfl) ?_
                   refine F.qn rfl rfl rfl rfl (r_pickf rfl rfl g266) ?_
                   refine F.qn rfl rfl rfl rfl (r_move rfl) ?_
                   refine F.qg rfl rfl rfl rfl rfl rfl g270 (r_move rfl) ?_
                   refine F.qg rfl rfl rfl rfl rfl rfl g270 (r_not rfl) ?_
                   refine F.qn rfl rfl rfl rfl (r_pickf rfl rfl g270) ?_
                   refine F.nil ?_
                   cases hE_19
                   refine Nrm.only [3, 5, 37, 41, 273] rfl ?_
                   refine Nrm.pick [3, 0, 12, 13, 14, 16] rfl rfl ?_
                   exact hj_15 _ _ ⟨rfl, rfl⟩
          ·rcases Bool.eq_false_or_eq_true (t162_2 != t167_2) with g173 | g173
           ·replace hE_5 := if_tt g173 hE_5
            refine Tri.reg (l := [0, 1, 2, 3, 4, 5, 6, 7, 8]) rfl ?_
            refine F.qn rfl rfl rfl rfl (r_move rfl) ?_
            refine F.qn rfl rfl rfl rfl (r_move rfl) ?_
            refine F.qn rfl rfl rfl rfl (r_neqB Try.underlying4 rfl rfl) ?_
            refine F.qn rfl rfl rfl rfl (r_move rfl) ?_
            iterate 4 refine F.sk rfl rfl rfl (wf rfl rfl rfl g173) ?_
            refine F.qn rfl rfl rfl rfl (r_pick rfl rfl g173) ?_
            refine F.nil ?_
            cases hE_5
            refine Nrm.only [3, 4, 5, 6, 13, 14, 15, 16, 20, 21, 24, 25, 26, 178] rfl ?_
            refine Nrm.pick [2, 6, 7, 8, 9, 10, 11, 3, 4, 5, 1, 12, 13, 14, 15, 16] rfl rfl ?_
            exact hj_5 _ _ ⟨rfl, rfl⟩
           ·replace hE_5 := if_ff g173 hE_5
            obtain ⟨t176, h176, hE_5⟩ := bind_some hE_5
            refine Tri.reg (l := [0, 1, 2, 3, 4, 5, 6, 7, 8]) rfl ?_
            refine F.qn rfl rfl rfl rfl (r_move rfl) ?_
            refine F.qn rfl rfl rfl rfl (r_move rfl) ?_
            refine F.qn rfl rfl rfl rfl (r_neqB Try.underlying4 rfl rfl) ?_
            refine F.qn rfl rfl rfl rfl (r_move rfl) ?_
            refine F.qg rfl rfl rfl rfl rfl rfl g173 (r_move rfl) ?_
            refine F.qg rfl rfl rfl rfl rfl rfl g173 (r_move rfl) ?_
            refine F.qc rfl rfl rfl (wg rfl rfl rfl g173) (q_callF (xs := _) rfl ok51 rfl rfl (fun w hw => laws_rInts.ok h176 w ((rd_sl (i := 1) rfl) w hw) ((rd_sl (i := 0) rfl) w hw))) ?_
            refine F.qg rfl rfl rfl rfl rfl rfl g173 (r_not rfl) ?_
            refine F.qn rfl rfl rfl rfl (r_pickf rfl rfl g173) ?_
            refine F.nil ?_
            cases hE_5
            refine Nrm.only [3, 4, 5, 6, 13, 14, 15, 16, 20, 21, 24, 25, 26, 178] rfl ?_
            refine Nrm.pick [2, 6, 7, 8, 9, 10, 11, 3, 4, 5, 1, 12, 13, 14, 15, 16] rfl rfl ?_
            exact hj_5 _ _ ⟨rfl, rfl⟩
        ·rcases Bool.eq_false_or_eq_true (t135_1 != t142_1) with g148 | g148
         ·replace hE_4 := if_tt g148 hE_4
          refine Tri.reg (l := List.range 13) rfl ?_
          refine F.qn rfl rfl rfl rfl (r_move rfl) ?_
          refine F.qn rfl rfl rfl rfl (r_move rfl) ?_
          refine F.qn rfl rfl rfl rfl (r_neqB Try.underlying4 rfl rfl) ?_
          refine F.qn rfl rfl rfl rfl (r_move rfl) ?_
          iterate 3 refine F.sk rfl rfl rfl (wf rfl rfl rfl g148) ?_
          refine F.qn rfl rfl rfl rfl (r_pick rfl rfl g148) ?_
          refine F.qn rfl rfl rfl rfl (r_move rfl) ?_
          iterate 3 refine F.sk rfl rfl rfl (wf rfl rfl rfl rfl) ?_
          refine F.qn rfl rfl rfl rfl (r_pick rfl rfl rfl) ?_
          refine F.nil ?_
          cases hE_4
          refine Nrm.only [0, 3, 4, 5, 6, 13, 14, 15, 16, 20, 21, 157] rfl ?_
          refine Nrm.pick [0, 1, 2, 3, 4, 5, 6, 7, 8, 9, 10] rfl rfl ?_
          exact hj_4 _ _ ⟨rfl, rfl⟩
         ·replace hE_4 := if_ff g148 hE_4
          rcases Bool.eq_false_or_eq_true (t135_2 != t142_2) with g153 | g153
          ·replace hE_4 := if_tt g153 hE_4
           refine Tri.reg (l := List.range 13) rfl ?_
           refine F.qn rfl rfl rfl rfl (r_move rfl) ?_
           refine F.qn rfl rfl rfl rfl (r_move rfl) ?_
           refine F.qn rfl rfl rfl rfl (r_neqB Try.underlying4 rfl rfl) ?_
           refine F.qn rfl rfl rfl rfl (r_move rfl) ?_
           refine F.qg rfl rfl rfl rfl rfl rfl g148 (r_move rfl) ?_
           refine F.qg rfl rfl rfl rfl rfl rfl g148 (r_move rfl) ?_
           refine F.qg rfl rfl rfl rfl rfl rfl g148 (r_neqB Try.underlying4 rfl rfl) ?_
           refine F.qn rfl rfl rfl rfl (r_pickf rfl rfl g148) ?_
           refine F.qn rfl rfl rfl rfl (r_move rfl) ?_
           iterate 3 refine F.sk rfl rfl rfl (wf rfl rfl rfl g153) ?_
           refine F.qn rfl rfl rfl rfl (r_pick rfl rfl g153) ?_
           refine F.nil ?_
           cases hE_4
           refine Nrm.only [0, 3, 4, 5, 6, 13, 14, 15, 16, 20, 21, 157] rfl ?_
           refine Nrm.pick [0, 1, 2, 3, 4, 5, 6, 7, 8, 9, 10] rfl rfl ?_
           exact hj_4 _ _ ⟨rfl, rfl⟩
          ·replace hE_4 := if_ff g153 hE_4
           refine Tri.reg (l := List.range 13) rfl ?_
           refine F.qn rfl rfl rfl rfl (r_move rfl) ?_
           refine F.qn rfl rfl rfl rfl (r_move rfl) ?_
           refine F.qn rfl rfl rfl rfl (r_neqB Try.underlying4 rfl rfl) ?_
           refine F.qn rfl rfl rfl rfl (r_move rfl) ?_
           refine F.qg rfl rfl rfl rfl rfl rfl g148 (r_move rfl) ?_
           refine F.qg rfl rfl rfl rfl rfl rfl g148 (r_move rfl) ?_
           refine F.qg rfl rfl rfl rfl rfl rfl g148 (r_neqB Try.underlying4 rfl rfl) ?_
           refine F.qn rfl rfl rfl rfl (r_pickf rfl rfl g148) ?_
           refine F.qn rfl rfl rfl rfl (r_move rfl) ?_
           refine F.qg rfl rfl rfl rfl rfl rfl g153 (r_move rfl) ?_
           refine F.qg rfl rfl rfl rfl rfl rfl g153 (r_move rfl) ?_
           refine F.qg rfl rfl rfl rfl rfl rfl g153 (r_neqB Try.underlying4 rfl rfl) ?_
           refine F.qn rfl rfl rfl rfl (r_pickf rfl rfl g153) ?_
           refine F.nil ?_
           cases hE_4
           refine Nrm.only [0, 3, 4, 5, 6, 13, 14, 15, 16, 20, 21, 157] rfl ?_
           refine Nrm.pick [0, 1, 2, 3, 4, 5, 6, 7, 8, 9, 10] rfl rfl ?_
           exact hj_4 _ _ ⟨rfl, rfl⟩
      ·rcases Bool.eq_false_or_eq_true (t112_2 != t119_2) with g125 | g125
       ·replace hE_3 := if_tt g125 hE_3
        refine Tri.reg (l := [0, 1, 2, 3, 4, 5, 6, 7, 8]) rfl ?_
        refine F.qn rfl rfl rfl rfl (r_move rfl) ?_
        refine F.qn rfl rfl rfl rfl (r_move rfl) ?_
        refine F.qn rfl rfl rfl rfl (r_neqB Try.underlying4 rfl rfl) ?_
        refine F.qn rfl rfl rfl rfl (r_move rfl) ?_
        iterate 4 refine F.sk rfl rfl rfl (wf rfl rfl rfl g125) ?_
        refine F.qn rfl rfl rfl rfl (r_pick rfl rfl g125) ?_
        refine F.nil ?_
        cases hE_3
        refine Nrm.only [0, 3, 4, 5, 6, 13, 14, 15, 16, 17, 130] rfl ?_
        refine Nrm.pick [2, 6, 3, 4, 5, 1, 7, 8, 9, 10, 11] rfl rfl ?_
        exact hj_3 _ _ ⟨rfl, rfl⟩
       ·replace hE_3 := if_ff g125 hE_3
        obtain ⟨t128, h128, hE_3⟩ := bind_some hE_3
        refine Tri.reg (l := [0, 1, 2, 3, 4, 5, 6, 7, 8]) rfl ?_
        refine F.qn rfl rfl rfl rfl (r_move rfl) ?_
        refine F.qn rfl rfl rfl rfl (r_move rfl) ?_
        refine F.qn rfl rfl rfl rfl (r_neqB Try.underlying4 rfl rfl) ?_
        refine F.qn rfl rfl rfl rfl (r_move rfl) ?_
        refine F.qg rfl rfl rfl rfl rfl rfl g125 (r_move rfl) ?_
        refine F.qg rfl rfl rfl rfl rfl rfl g125 (r_move rfl) ?_
        refine F.qc rfl rfl rfl (wg rfl rfl rfl g125) (q_callF (xs := _) rfl ok51 rfl rfl (fun w hw => laws_rInts.ok h128 w ((rd_sl (i := 1) rfl) w hw) ((rd_sl (i := 0) rfl) w hw))) ?_
        refine F.qg rfl rfl rfl rfl rfl rfl g125 (r_not rfl) ?_
        refine F.qn rfl rfl rfl rfl (r_pickf rfl rfl g125) ?_
        refine F.nil ?_
        cases hE_3
        refine Nrm.only [0, 3, 4, 5, 6, 13, 14, 15, 16, 17, 130] rfl ?_
        refine Nrm.pick [2, 6, 3, 4, 5, 1, 7, 8, 9, 10, 11] rfl rfl ?_
        exact hj_3 _ _ ⟨rfl, rfl⟩
    ·rcases Bool.eq_false_or_eq_true (t77_1 != t83_1) with g89 | g89
     ·replace hE_2 := if_tt g89 hE_2
      refine Tri.reg (l := List.range 16) rfl ?_
      refine F.qn rfl rfl rfl rfl (r_move rfl) ?_
      refine F.qn rfl rfl rfl rfl (r_move rfl) ?_
      refine F.qn rfl rfl rfl rfl (r_neqB Try.underlying4 rfl rfl) ?_
      refine F.qn rfl rfl rfl rfl (r_move rfl) ?_
      iterate 3 refine F.sk rfl rfl rfl (wf rfl rfl rfl g89) ?_
      refine F.qn rfl rfl rfl rfl (r_pick rfl rfl g89) ?_
      refine F.qn rfl rfl rfl rfl (r_move rfl) ?_
      iterate 3 refine F.sk rfl rfl rfl (wf rfl rfl rfl rfl) ?_
      refine F.sk rfl rfl rfl (wanted_undef rfl rfl rfl) ?_
      refine F.sk rfl rfl rfl (wf rfl rfl rfl rfl) ?_
      refine F.sk rfl rfl rfl (wf rfl rfl rfl rfl) ?_
      refine F.qn rfl rfl rfl rfl (r_pick rfl rfl rfl) ?_
      refine F.nil ?_
      cases hE_2
      refine Nrm.only [0, 3, 4, 5, 6, 101] rfl ?_
      refine Nrm.pick [0, 1, 2, 3, 4, 5] rfl rfl ?_
      exact hj_2 _ _ ⟨rfl, rfl⟩
     ·replace hE_2 := if_ff g89 hE_2
      rcases Bool.eq_false_or_eq_true (t77_2 != t83_2) with g94 | g94
      ·replace hE_2 := if_tt g94 hE_2
       refine Tri.reg (l := List.range 16) rfl ?_
       refine F.qn rfl rfl rfl rfl (r_move rfl) ?_
       refine F.qn rfl rfl rfl rfl (r_move rfl) ?_
       refine F.qn rfl rfl rfl rfl (r_neqB Try.underlying4 rfl rfl) ?_
       refine F.qn rfl rfl rfl rfl (r_move rfl) ?_
       refine F.qg rfl rfl rfl rfl rfl rfl g89 (r_move rfl) ?_
       refine F.qg rfl rfl rfl rfl rfl rfl g89 (r_move rfl) ?_
       refine F.qg rfl rfl rfl rfl rfl rfl g89 (r_neqB Try.underlying4 rfl rfl) ?_
       refine F.qn rfl rfl rfl rfl (r_pickf rfl rfl g89) ?_
       refine F.qn rfl rfl rfl rfl (r_move rfl) ?_
       iterate 3 refine F.sk rfl rfl rfl (wf rfl rfl rfl g94) ?_
       refine F.sk rfl rfl rfl (wanted_undef rfl rfl rfl) ?_
       refine F.sk rfl rfl rfl (wf rfl rfl rfl g94) ?_
       refine F.sk rfl rfl rfl (wf rfl rfl rfl g94) ?_
       refine F.qn rfl rfl rfl rfl (r_pick rfl rfl g94) ?_
       refine F.nil ?_
       cases hE_2
       refine Nrm.only [0, 3, 4, 5, 6, 101] rfl ?_
       refine Nrm.pick [0, 1, 2, 3, 4, 5] rfl rfl ?_
       exact hj_2 _ _ ⟨rfl, rfl⟩
      ·replace hE_2 := if_ff g94 hE_2
       rcases Bool.eq_false_or_eq_true (t77_2) with g97 | g97
       ·replace hE_2 := if_tt g97 hE_2
        refine Tri.reg (l := List.range 16) rfl ?_
        refine F.qn rfl rfl rfl rfl (r_move rfl) ?_
        refine F.qn rfl rfl rfl rfl (r_move rfl) ?_
        refine F.qn rfl rfl rfl rfl (r_neqB Try.underlying4 rfl rfl) ?_
        refine F.qn rfl rfl rfl rfl (r_move rfl) ?_
        refine F.qg rfl rfl rfl rfl rfl rfl g89 (r_move rfl) ?_
        refine F.qg rfl rfl rfl rfl rfl rfl g89 (r_move rfl) ?_
        refine F.qg rfl rfl rfl rfl rfl rfl g89 (r_neqB Try.underlying4 rfl rfl) ?_
        refine F.qn rfl rfl rfl rfl (r_pickf rfl rfl g89) ?_
        refine F.qn rfl rfl rfl rfl (r_move rfl) ?_
        iterate 3 refine F.qg rfl rfl rfl rfl rfl rfl g94 (r_move rfl) ?_
        refine F.qg rfl rfl rfl rfl rfl rfl g97 (r_move rfl) ?_
        refine F.qg rfl rfl rfl rfl rfl rfl g94 (r_pick rfl rfl g97) ?_
        refine F.qg rfl rfl rfl rfl rfl rfl g94 (r_neqB Try.underlying4 rfl rfl) ?_
        refine F.qn rfl rfl rfl rfl (r_pickf rfl rfl g94) ?_
        refine F.nil ?_
        cases hE_2
        refine Nrm.only [0, 3, 4, 5, 6, 101] rfl ?_
        refine Nrm.pick [0, 1, 2, 3, 4, 5] rfl rfl ?_
        exact hj_2 _ _ ⟨rfl, rfl⟩
       ·replace hE_2 := if_ff g97 hE_2
        refine Tri.reg (l := List.range 16) rfl ?_
        refine F.qn rfl rfl rfl rfl (r_move rfl) ?_
        refine F.qn rfl rfl rfl rfl (r_move rfl) ?_
        refine F.qn rfl rfl rfl rfl (r_neqB Try.underlying4 rfl rfl) ?_
        refine F.qn rfl rfl rfl rfl (r_move rfl) ?_
        refine F.qg rfl rfl rfl rfl rfl rfl g89 (r_move rfl) ?_
        refine F.qg rfl rfl rfl rfl rfl rfl g89 (r_move rfl) ?_
        refine F.qg rfl rfl rfl rfl rfl rfl g89 (r_neqB Try.underlying4 rfl rfl) ?_
        refine F.qn rfl rfl rfl rfl (r_pickf rfl rfl g89) ?_
        refine F.qn rfl rfl rfl rfl (r_move rfl) ?_
        iterate 3 refine F.qg rfl rfl rfl rfl rfl rfl g94 (r_move rfl) ?_
        refine F.sk rfl rfl rfl (wf rfl rfl rfl g97) ?_
        refine F.qg rfl rfl rfl rfl rfl rfl g94 (r_pickf rfl rfl g97) ?_
        refine F.qg rfl rfl rfl rfl rfl rfl g94 (r_neqB Try.underlying4 rfl rfl) ?_
        refine F.qn rfl rfl rfl rfl (r_pickf rfl rfl g94) ?_
        refine F.nil ?_
        cases hE_2
        refine Nrm.only [0, 3, 4, 5, 6, 101] rfl ?_
        refine Nrm.pick [0, 1, 2, 3, 4, 5] rfl rfl ?_
        exact hj_2 _ _ ⟨rfl, rfl⟩
  ·rcases Bool.eq_false_or_eq_true (t56_2 != t62_2) with g68 | g68
   ·replace hE_1 := if_tt g68 hE_1
    refine Tri.reg (l := [0, 1, 2, 3, 4, 5, 6, 7, 8]) rfl ?_
    refine F.qn rfl rfl rfl rfl (r_move rfl) ?_
    refine F.qn rfl rfl rfl rfl (r_move rfl) ?_
    refine F.qn rfl rfl rfl rfl (r_neqB Try.underlying4 rfl rfl) ?_
    refine F.qn rfl rfl rfl rfl (r_move rfl) ?_
    iterate 4 refine F.sk rfl rfl rfl (wf rfl rfl rfl g68) ?_
    refine F.qn rfl rfl rfl rfl (r_pick rfl rfl g68) ?_
    refine F.nil ?_
    cases hE_1
    refine Nrm.only [0, 3, 4, 5, 6, 73] rfl ?_
    refine Nrm.pick [2, 3, 4, 5, 6, 1] rfl rfl ?_
    exact hj_1 _ _ ⟨rfl, rfl⟩
   ·replace hE_1 := if_ff g68 hE_1
    obtain ⟨t71, h71, hE_1⟩ := bind_some hE_1
    refine Tri.reg (l := [0, 1, 2, 3, 4, 5, 6, 7, 8]) rfl ?_
    refine F.qn rfl rfl rfl rfl (r_move rfl) ?_
    refine F.qn rfl rfl rfl rfl (r_move rfl) ?_
    refine F.qn rfl rfl rfl rfl (r_neqB Try.underlying4 rfl rfl) ?_
    refine F.qn rfl rfl rfl rfl (r_move rfl) ?_
    refine F.qg rfl rfl rfl rfl rfl rfl g68 (r_move rfl) ?_
    refine F.qg rfl rfl rfl rfl rfl rfl g68 (r_move rfl) ?_
    refine F.qc rfl rfl rfl (wg rfl rfl rfl g68) (q_callF (xs := _) rfl ok51 rfl rfl (fun w hw => laws_rInts.ok h71 w ((rd_sl (i := 1) rfl) w hw) ((rd_sl (i := 0) rfl) w hw))) ?_
    refine F.qg rfl rfl rfl rfl rfl rfl g68 (r_not rfl) ?_
    refine F.qn rfl rfl rfl rfl (r_pickf rfl rfl g68) ?_
    refine F.nil ?_
    cases hE_1
    refine Nrm.only [0, 3, 4, 5, 6, 73] rfl ?_
    refine Nrm.pick [2, 3, 4, 5, 6, 1] rfl rfl ?_
    exact hj_1 _ _ ⟨rfl, rfl⟩


def spec_l1Own.f (k : Nat) (a0 : List Int) : Option ((List Int)) := if (([] : List (Int)) ++ a0).length < 1099511627776 then some (([] : List (Int)) ++ a0) else none


def spec_l2Own.f (k : Nat) (a0_0 : Int) (a0_1 : List (Int × Int × Int)) (a0_2 : List Int) : Option (Int × (List (Int × Int × Int)) × (List Int)) := if (([] : List (Int × Int × Int)) ++ a0_1).length < 1099511627776 then (spec_l1Own.f k a0_2).bind fun t11 => some (a0_0, ([] : List (Int × Int × Int)) ++ a0_1, t11) else none


def spec_l1Put.l0 (k : Nat) (a0 : List Int) (a1 : Int) : Nat → Int → Option (Int)
 | 0, _ => none
 | n + 1, x5 => ((if (decide (x5 < (a0.length : Int))) = true then (rdl a0 x5).bind fun t13 => some (decide (t13 < a1)) else some false)).bind fun y17 => (if y17 = true then spec_l1Put.l0 k a0 a1 n (w64 (x5 + 1)) else some x5)

def spec_l1Put.f (k : Nat) (a0 : List Int) (a1 : Int) : Option ((List Int)) := (spec_l1Put.l0 k a0 a1 k 0).bind fun x5 => ((if (decide (x5 < (a0.length : Int))) = true then (rdl a0 x5).bind fun t27 => some (t27 == a1) else some false)).bind fun y31 => (if y31 = true then some a0 else ((slc a0 0 x5).bind fun t36 => (slc a0 x5 (a0.length : Int)).bind fun t43 => if (([] : List (Int)) ++ t36).length < 1099511627776 then if ((([] : List (Int)) ++ t36) ++ ([a1] : List (Int))).length < 1099511627776 then if (((([] : List (Int)) ++ t36) ++ ([a1] : List (Int))) ++ t43).length < 1099511627776 then some (((([] : List (Int)) ++ t36) ++ ([a1] : List (Int))) ++ t43) else none else none else none).bind fun y4 => some y4)


def spec_l2Reach.l1 (k : Nat) (a0_1 : List (Int × Int × Int)) (a2 : Int) (x9 : Int) : Nat → (List (Int)) → (List (Int)) → Int → Option ((List (Int)) × (List (Int)))
 | 0, _, _, _ => none
 | n + 1, x7r, x8r, x10 => (if (decide (x10 < (a0_1.length : Int))) = true then ((rdl a0_1 x10).bind fun t33 => ((spec_l2Has.f k a2 t33.2.2).bind fun t38 => (if (!t38) = true then some true else (rdl x8r x9).bind fun t45 => (if (t33.1 != t45) = true then (rdl x8r x9).bind fun t53 => some (t33.2.1 != t53) else some false))).bind fun y57 => (if y57 = true then some (x7r, x8r) else (rdl x8r x9).bind fun t65 => (spec_l1Has.f k x7r (w64 ((w64 (t33.1 + t33.2.1)) - t65))).bind fun t70 => ((if (!t70) = true then (spec_l1Put.f k x7r (w64 ((w64 (t33.1 + t33.2.1)) - t65))).bind fun t74 => if (x8r ++ ([w64 ((w64 (t33.1 + t33.2.1)) - t65)] : List (Int))).length < 1099511627776 then some (t74, x8r ++ ([w64 ((w64 (t33.1 + t33.2.1)) - t65)] : List (Int))) else none else some (x7r, x8r))).bind fun (y7, y8) => some (y7, y8))).bind fun (y7, y8) => spec_l2Reach.l1 k a0_1 a2 x9 n y7 y8 (w64 (x10 + 1)) else some (x7r, x8r))

def spec_l2Reach.l0 (k : Nat) (a0_1 : List (Int × Int × Int)) (a2 : Int) : Nat → (List (Int)) → (List (Int)) → Int → Option ((List (Int)))
 | 0, _, _, _ => none
 | n + 1, x7, x8, x9 => (if (decide (x9 < (x8.length : Int))) = true then (spec_l2Reach.l1 k a0_1 a2 x9 k x7 x8 0).bind fun (x7r, x8r) => spec_l2Reach.l0 k a0_1 a2 n x7r x8r (w64 (x9 + 1)) else some x7)

def spec_l2Reach.f (k : Nat) (a0_0 : Int) (a0_1 : List (Int × Int × Int)) (a0_2 : List Int) (a1 : Int) (a2 : Int) : Option ((List Int)) := (spec_l2Reach.l0 k a0_1 a2 k ([a1] : List (Int)) ([a1] : List (Int)) 0).bind fun x7 => some x7


def spec_l2Close.l1 (k : Nat) (a0_2 : List Int) (t11 : List Int) : Nat → Int → Int → Option (Int)
 | 0, _, _ => none
 | n + 1, x7, x8 => (if (decide (x8 < (t11.length : Int))) = true then (rdl t11 x8).bind fun t24 => (rdl a0_2 t24).bind fun t26 => spec_l2Close.l1 k a0_2 t11 n (bor x7 t26) (w64 (x8 + 1)) else some x7)

def spec_l2Close.l0 (k : Nat) (a0_0 : Int) (a0_1 : List (Int × Int × Int)) (a0_2 : List Int) : Nat → Int → Option ((Unit) ⊕ (Int × (List Int)))
 | 0, _ => none
 | n + 1, x1 => (spec_l2Reach.f k a0_0 a0_1 a0_2 0 x1).bind fun t11 => (spec_l2Close.l1 k a0_2 t11 k x1 0).bind fun x7 => (if (x7 == x1) = true then some (Sum.inr (x1, t11)) else spec_l2Close.l0 k a0_0 a0_1 a0_2 n x7)

def spec_l2Close.f (k : Nat) (a0_0 : Int) (a0_1 : List (Int × Int × Int)) (a0_2 : List Int) (a1 : Int) : Option (Int × (List Int)) := (spec_l2Close.l0 k a0_0 a0_1 a0_2 k a1).bind fun s => Lr s some fun _ => none


def spec_l2Colours.l0 (k : Nat) (a0 : Int) : Nat → (List (Int)) → Int → Option ((List (Int)))
 | 0, _, _ => none
 | n + 1, x3, x4 => (if (decide (x4 < 6)) = true then if ¬ x4 < 0 then ((if ((band (shr a0 x4) 1) == 1) = true then if (x3 ++ ([x4] : List (Int))).length < 1099511627776 then some (x3 ++ ([x4] : List (Int))) else none else some x3)).bind fun y3 => spec_l2Colours.l0 k a0 n y3 (w64 (x4 + 1)) else none else some x3)

def spec_l2Colours.f (k : Nat) (a0 : Int) : Option ((List Int)) := (spec_l2Colours.l0 k a0 k ([] : List (Int)) 0).bind fun x3 => some x3


def spec_l9Lay.l1 (k : Nat) (a1 : List Int) (a2 : List Int) : Nat → Int → (List (Int)) → Option ((List (Int)))
 | 0, _, _ => none
 | n + 1, x9, xq7_1_2r => (if (decide (x9 < (a2.length : Int))) = true then (rdl a2 x9).bind fun t32 => (rdl a2 x9).bind fun t38 => (rdl xq7_1_2r t38).bind fun t40 => (rdl a1 x9).bind fun t44 => if ¬ t44 < 0 then (rdl xq7_1_2r t32).bind fun t48 => spec_l9Lay.l1 k a1 a2 n (w64 (x9 + 1)) (xq7_1_2r.set t32.toNat (bor t40 (shl 1 t44))) else none else some xq7_1_2r)

def spec_l9Lay.l0 (k : Nat) (a0_0 : Int) : Nat → Int → (List (Int)) → Option ((List (Int)))
 | 0, _, _ => none
 | n + 1, x8, xq7_1_2 => (if (decide (x8 < a0_0)) = true then (rdl xq7_1_2 x8).bind fun t21 => spec_l9Lay.l0 k a0_0 n (w64 (x8 + 1)) (xq7_1_2.set x8.toNat 0) else some xq7_1_2)

def spec_l9Lay.f (k : Nat) (a0_0 : Int) (a0_1 : List (Int × Int × Int)) (a0_2 : List Int) (a1 : List Int) (a2 : List Int) : Option (Int × (List (Int × Int × Int)) × (List Int)) := (spec_l2Own.f k a0_0 a0_1 a0_2).bind fun (t11_1, t11_2, t11_3) => (spec_l9Lay.l0 k a0_0 k 0 t11_3).bind fun xq7_1_2 => (spec_l9Lay.l1 k a1 a2 k 0 xq7_1_2).bind fun xq7_1_2r => some (t11_1, t11_2, xq7_1_2r)


def spec_l9Place.l0 (k : Nat) (a0 : List Int) (a1 : Int) : Nat → Int → Option (Int)
 | 0, _ => none
 | n + 1, x5 => (rdl a0 x5).bind fun t8 => (if (t8 != a1) = true then spec_l9Place.l0 k a0 a1 n (w64 (x5 + 1)) else some x5)

def spec_l9Place.f (k : Nat) (a0 : List Int) (a1 : Int) : Option (Int) := (spec_l9Place.l0 k a0 a1 k 0).bind fun x5 => some x5


def spec_l9Fill.l1 (k : Nat) (a2 : List Int) (x12 : List (Int)) (t61 : List Int) : Nat → (List (Int)) → Int → Option ((List (Int)))
 | 0, _, _ => none
 | n + 1, x17, x19 => (if (decide (x19 < (t61.length : Int))) = true then (rdl t61 x19).bind fun t73 => (spec_l9Place.f k a2 t73).bind fun t75 => (rdl x12 t75).bind fun t76 => if (x17 ++ ([t76] : List (Int))).length < 1099511627776 then spec_l9Fill.l1 k a2 x12 t61 n (x17 ++ ([t76] : List (Int))) (w64 (x19 + 1)) else none else some x17)

def spec_l9Fill.l0 (k : Nat) (a0_0 : Int) (a0_1 : List (Int × Int × Int)) (a0_2 : List Int) (a2 : List Int) (a3 : List Int) (a4 : Bool) : Nat → Int → (List (Int)) → Int → Option ((List (Int)))
 | 0, _, _, _ => none
 | n + 1, x11, x12, x13 => (if (decide (x13 < (a2.length : Int))) = true then (rdl a2 x13).bind fun t31 => if ¬ t31 < 0 then ((if a4 = true then some 0 else some (bclr x11 (shl 1 t31)))).bind fun y14 => (spec_l9Lay.f k a0_0 a0_1 a0_2 a2 x12).bind fun (t41_1, t41_2, t41_3) => (spec_l2Close.f k t41_1 t41_2 t41_3 y14).bind fun (t43_1, t43_2) => (rdl a3 x13).bind fun t50 => if ¬ (t43_2.length : Int) = 0 then (rdl t43_2 (rem t50 (t43_2.length : Int))).bind fun t55 => if (x12 ++ ([t55] : List (Int))).length < 1099511627776 then spec_l9Fill.l0 k a0_0 a0_1 a0_2 a2 a3 a4 n (bclr x11 (shl 1 t31)) (x12 ++ ([t55] : List (Int))) (w64 (x13 + 1)) else none else none else none else some x12)

def spec_l9Fill.f (k : Nat) (a0_0 : Int) (a0_1 : List (Int × Int × Int)) (a0_2 : List Int) (a1 : Int) (a2 : List Int) (a3 : List Int) (a4 : Bool) : Option ((List Int)) := (spec_l9Fill.l0 k a0_0 a0_1 a0_2 a2 a3 a4 k a1 ([] : List (Int)) 0).bind fun x12 => (spec_l2Colours.f k a1).bind fun t61 => (spec_l9Fill.l1 k a2 x12 t61 k ([] : List (Int)) 0).bind fun x17 => some x17


def laws_vInts.l0 (k : Nat) (a0 : List Int) (a1 : List Int) : Nat → Int → Option ((Unit) ⊕ (Bool))
 | 0, _ => none
 | n + 1, x5 => (if (decide (x5 < (a0.length : Int))) = true then (rdl a0 x5).bind fun t19 => (rdl a1 x5).bind fun t23 => (if (t19 != t23) = true then some (Sum.inr false) else laws_vInts.l0 k a0 a1 n (w64 (x5 + 1))) else some (Sum.inl ()))

def laws_vInts.f (k : Nat) (a0 : List Int) (a1 : List Int) : Option (Bool) := (if ((a0.length : Int) != (a1.length : Int)) = true then some false else (laws_vInts.l0 k a0 a1 k 0).bind fun s => Lr s some fun _ => some true)

end Go.Proofs
