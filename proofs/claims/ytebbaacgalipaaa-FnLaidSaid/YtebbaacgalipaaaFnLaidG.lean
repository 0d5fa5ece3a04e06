/- A part of the proof of FnLaid: what the functions of the program compute, walked on the model. No condition. -/
import Derived.Test.YtebbaacgalipaaaFnLaidC
import Derived.Test.YtebbaacgalipaaaFnLaidE
import Derived.Test.YtebbaacgalipaaaFnLaidF
set_option linter.unusedSimpArgs false
/- loop.example/g01158/laws.FnLaid -/
namespace Go.Proofs
open Go Go.Ga
set_option linter.unusedVariables false
set_option maxRecDepth 100000
set_option maxHeartbeats 4000000
def laws_FnLaid.l2 (k : Nat) (t103_1 : List (Int × Int)) (t275_1 : List Int) (x41 : Int) (x42 : Int) : Nat → Bool → Int → Option (Bool)
 | 0, _, _ => none
 | n + 1, x47, x48 => (if (decide (x48 < (t103_1.length : Int))) = true then ((if x47 = true then some true else (rdl t103_1 x48).bind fun t364 => (rdl t275_1 x41).bind fun t368 => (rdl t275_1 x42).bind fun t372 => some (decide ((t364.1, t364.2) = (t368, t372))))).bind fun y47 => laws_FnLaid.l2 k t103_1 t275_1 x41 x42 n y47 (w64 (x48 + 1)) else some x47)

def laws_FnLaid.l1 (k : Nat) (t53_1 : Int) (t53_2 : List (Int × Int × Int)) (t53_3 : List Int) (t53_4 : Int) (t53_5 : List Int) (t103_1 : List (Int × Int)) (t103_2 : Bool) (t275_1 : List Int) (x41 : Int) : Nat → Int → Option ((Unit) ⊕ (Bool))
 | 0, _ => none
 | n + 1, x42 => ((if t103_2 = true then some (decide (x42 < (t53_5.length : Int))) else some false)).bind fun y329 => (if y329 = true then (rdl t275_1 x41).bind fun t338 => (rdl t275_1 x42).bind fun t342 => (impl_SwapFilling.f k t53_1 t53_2 t53_3 t53_4 t53_5 t338 t342).bind fun (t344_1, t344_2) => (impl_FillingWins.f k t53_1 t53_2 t53_3 t53_4 t344_1).bind fun (t351_1, t351_2) => (laws_FnLaid.l2 k t103_1 t275_1 x41 x42 k false 0).bind fun x47 => ((if (!t344_2) = true then some true else (if (!t351_2) = true then some true else some (t351_1 != x47)))).bind fun y387 => (if y387 = true then some (Sum.inr false) else laws_FnLaid.l1 k t53_1 t53_2 t53_3 t53_4 t53_5 t103_1 t103_2 t275_1 x41 n (w64 (x42 + 1))) else some (Sum.inl ()))

def laws_FnLaid.l0 (k : Nat) (t53_1 : Int) (t53_2 : List (Int × Int × Int)) (t53_3 : List Int) (t53_4 : Int) (t53_5 : List Int) (t61_3 : List Int) (t103_1 : List (Int × Int)) (t103_2 : Bool) (t275_1 : List Int) : Nat → Int → Option ((Unit) ⊕ (Bool))
 | 0, _ => none
 | n + 1, x41 => (if (decide (x41 < (t53_5.length : Int))) = true then (rdl t53_5 x41).bind fun t310 => (rdl t61_3 t310).bind fun t312 => (rdl t275_1 x41).bind fun t316 => if ¬ t316 < 0 then (if ((band (shr t312 t316) 1) != 1) = true then some (Sum.inr false) else (laws_FnLaid.l1 k t53_1 t53_2 t53_3 t53_4 t53_5 t103_1 t103_2 t275_1 x41 k (w64 (x41 + 1))).bind fun s => Lr s (fun r => some (Sum.inr r)) fun _ => laws_FnLaid.l0 k t53_1 t53_2 t53_3 t53_4 t53_5 t61_3 t103_1 t103_2 t275_1 n (w64 (x41 + 1))) else none else some (Sum.inl ()))

def laws_FnLaid.l5 (k : Nat) (t103_1 : List (Int × Int)) (t275_1 : List Int) (x41r : Int) (x42r : Int) : Nat → Bool → Int → Option (Bool)
 | 0, _, _ => none
 | n + 1, x47r, x48r => (if (decide (x48r < (t103_1.length : Int))) = true then ((if x47r = true then some true else (rdl t103_1 x48r).bind fun t364 => (rdl t275_1 x41r).bind fun t368 => (rdl t275_1 x42r).bind fun t372 => some (decide ((t364.1, t364.2) = (t368, t372))))).bind fun y47r => laws_FnLaid.l5 k t103_1 t275_1 x41r x42r n y47r (w64 (x48r + 1)) else some x47r)

def laws_FnLaid.l4 (k : Nat) (t53_1 : Int) (t53_2 : List (Int × Int × Int)) (t53_3 : List Int) (t53_4 : Int) (t53_5 : List Int) (t103_1 : List (Int × Int)) (t103_2 : Bool) (t275_1 : List Int) (x41r : Int) : Nat → Int → Option ((Unit) ⊕ (Bool))
 | 0, _ => none
 | n + 1, x42r => ((if t103_2 = true then some (decide (x42r < (t53_5.length : Int))) else some false)).bind fun y329r => (if y329r = true then (rdl t275_1 x41r).bind fun t338 => (rdl t275_1 x42r).bind fun t342 => (impl_SwapFilling.f k t53_1 t53_2 t53_3 t53_4 t53_5 t338 t342).bind fun (t344_1, t344_2) => (impl_FillingWins.f k t53_1 t53_2 t53_3 t53_4 t344_1).bind fun (t351_1, t351_2) => (laws_FnLaid.l5 k t103_1 t275_1 x41r x42r k false 0).bind fun x47r => ((if (!t344_2) = true then some true else (if (!t351_2) = true then some true else some (t351_1 != x47r)))).bind fun y387r => (if y387r = true then some (Sum.inr false) else laws_FnLaid.l4 k t53_1 t53_2 t53_3 t53_4 t53_5 t103_1 t103_2 t275_1 x41r n (w64 (x42r + 1))) else some (Sum.inl ()))

def laws_FnLaid.l3 (k : Nat) (t53_1 : Int) (t53_2 : List (Int × Int × Int)) (t53_3 : List Int) (t53_4 : Int) (t53_5 : List Int) (t61_3 : List Int) (t103_1 : List (Int × Int)) (t103_2 : Bool) (t275_1 : List Int) : Nat → Int → Option ((Unit) ⊕ (Bool))
 | 0, _ => none
 | n + 1, x41r => (if (decide (x41r < (t53_5.length : Int))) = true then (rdl t53_5 x41r).bind fun t310 => (rdl t61_3 t310).bind fun t312 => (rdl t275_1 x41r).bind fun t316 => if ¬ t316 < 0 then (if ((band (shr t312 t316) 1) != 1) = true then some (Sum.inr false) else (laws_FnLaid.l4 k t53_1 t53_2 t53_3 t53_4 t53_5 t103_1 t103_2 t275_1 x41r k (w64 (x41r + 1))).bind fun s => Lr s (fun r => some (Sum.inr r)) fun _ => laws_FnLaid.l3 k t53_1 t53_2 t53_3 t53_4 t53_5 t61_3 t103_1 t103_2 t275_1 n (w64 (x41r + 1))) else none else some (Sum.inl ()))

def laws_FnLaid.f (k : Nat) (a0 : List By) : Option (Bool) := (laws_vBig.f k a0).bind fun t50 => (if t50 = true then some true else (spec_DrawFillingWins.f k a0).bind fun (t53_1, t53_2, t53_3, t53_4, t53_5) => (impl_LayKeys.f k t53_1 t53_2 t53_3 t53_4 t53_5).bind fun (t61_1, t61_2, t61_3, t61_4) => (spec_LayKeys.f k t53_1 t53_2 t53_3 t53_4 t53_5).bind fun (t68_1, t68_2, t68_3, t68_4) => (impl_FillingWins.f k t53_1 t53_2 t53_3 t53_4 t53_5).bind fun (t75_1, t75_2) => (spec_FillingWins.f k t53_1 t53_2 t53_3 t53_4 t53_5).bind fun (t82_1, t82_2) => (impl_FillingDepth.f k t53_1 t53_2 t53_3 t53_4 t53_5).bind fun (t89_1, t89_2) => (spec_FillingDepth.f k t53_1 t53_2 t53_3 t53_4 t53_5).bind fun (t96_1, t96_2) => (impl_GoodSwaps.f k t53_1 t53_2 t53_3 t53_4 t53_5).bind fun (t103_1, t103_2) => (spec_GoodSwaps.f k t53_1 t53_2 t53_3 t53_4 t53_5).bind fun (t110_1, t110_2) => (impl_IsFilling.f k t53_1 t53_2 t53_3 t53_4 t53_5).bind fun (t117_1, t117_2) => (spec_IsFilling.f k t53_1 t53_2 t53_3 t53_4 t53_5).bind fun (t124_1, t124_2) => (laws_vCut.f k a0 1).bind fun t129 => (spec_DrawSwapFilling.f k t129).bind fun (t130_1, t130_2, t130_3, t130_4, t130_5, t130_6, t130_7) => (impl_SwapFilling.f k t130_1 t130_2 t130_3 t130_4 t130_5 t130_6 t130_7).bind fun (t142_1, t142_2) => (spec_SwapFilling.f k t130_1 t130_2 t130_3 t130_4 t130_5 t130_6 t130_7).bind fun (t151_1, t151_2) => ((if (t61_4 != t68_4) = true then some true else (laws_vMaze.f k t61_1 t61_2 t61_3 t68_1 t68_2 t68_3).bind fun t160 => (if (!t160) = true then some true else (if (t75_1 != t82_1) = true then some true else (if (t75_2 != t82_2) = true then some true else (if (t89_1 != t96_1) = true then some true else (if (t89_2 != t96_2) = true then some true else (if (t103_2 != t110_2) = true then some true else (laws_vPairs.f k t103_1 t110_1).bind fun t191 => (if (!t191) = true then some true else (if (t117_1 != t124_1) = true then some true else (if (t117_2 != t124_2) = true then some true else (if (t142_2 != t151_2) = true then some true else (laws_vInts.f k t142_1 t151_1).bind fun t212 => (if (!t212) = true then some true else (if t117_2 = true then (if (t61_4 != t117_1) = true then some true else (if (t61_4 != t75_2) = true then some true else (if t75_2 = true then (if (t89_2 != t75_1) = true then some true else some (t103_2 != t89_2)) else (if (t89_2 != false) = true then some true else some (t103_2 != t89_2))))) else (if (t61_4 != false) = true then some true else (if (t61_4 != t75_2) = true then some true else (if t75_2 = true then (if (t89_2 != t75_1) = true then some true else some (t103_2 != t89_2)) else (if (t89_2 != false) = true then some true else some (t103_2 != t89_2))))))))))))))))))).bind fun y240 => (if y240 = true then some false else (if t142_2 = true then (impl_SwapFilling.f k t130_1 t130_2 t130_3 t130_4 t142_1 t130_7 t130_6).bind fun (t248_1, t248_2) => ((if (!t248_2) = true then some true else (laws_vInts.f k t248_1 t130_5).bind fun t256 => (if (!t256) = true then some true else (laws_vAdd.f k t142_1).bind fun t261 => (laws_vAdd.f k t130_5).bind fun t263 => some (t261 != t263)))).bind fun y265 => (if y265 = true then some false else (if (!t61_4) = true then some true else (impl_WinRound.f k t61_1 t61_2 t61_3 0).bind fun (t270_1, t270_2) => (impl_ColoursOf.f k t53_4).bind fun (t275_1, t275_2) => ((if (t270_2 != t75_1) = true then some true else (if t75_1 = true then (if (t270_1 != t89_1) = true then some true else (if (!t275_2) = true then some true else some ((t275_1.length : Int) != (t53_5.length : Int)))) else (if (!t275_2) = true then some true else some ((t275_1.length : Int) != (t53_5.length : Int)))))).bind fun y299 => (if y299 = true then some false else (laws_FnLaid.l0 k t53_1 t53_2 t53_3 t53_4 t53_5 t61_3 t103_1 t103_2 t275_1 k 0).bind fun s => Lr s some fun _ => some true))) else (if (!t61_4) = true then some true else (impl_WinRound.f k t61_1 t61_2 t61_3 0).bind fun (t270_1, t270_2) => (impl_ColoursOf.f k t53_4).bind fun (t275_1, t275_2) => ((if (t270_2 != t75_1) = true then some true else (if t75_1 = true then (if (t270_1 != t89_1) = true then some true else (if (!t275_2) = true then some true else some ((t275_1.length : Int) != (t53_5.length : Int)))) else (if (!t275_2) = true then some true else some ((t275_1.length : Int) != (t53_5.length : Int)))))).bind fun y299r => (if y299r = true then some false else (laws_FnLaid.l3 k t53_1 t53_2 t53_3 t53_4 t53_5 t61_3 t103_1 t103_2 t275_1 k 0).bind fun s => Lr s some fun _ => some true)))))

theorem laws_FnLaid.ok {k : Nat}  {a0 : List By} {r0 : Bool} (h : laws_FnLaid.f k a0 = some r0) (w : World) {va0 : Value} (hr_a0 : Rd w va0 a0) :
  Calls Try.prog 5 ([va0] : List Value).toArray w (fun e w' => e = .returned (.bool r0) ∧ Ext w w') := by
 unfold laws_FnLaid.f at h
 have hl_va0 := hr_a0.len
 refine Calls.of_tri (N := 388) Try.func5 rfl rfl rfl (Sep.nil (M := noM)) ?_
 refine Tri.seq (Tri.reg (l := [0]) rfl ?_)
 refine F.qn rfl rfl rfl rfl (r_assign rfl) ?_
 refine F.nil (Nrm.seq (Tri.seq (Tri.seq ?_)))
 obtain ⟨t50, h50, h⟩ := bind_some h
 refine Tri.reg (l := [0, 1]) rfl ?_
 refine F.qn rfl rfl rfl rfl (r_move rfl) ?_
 refine F.qcn rfl rfl rfl rfl (q_callF (xs := _) rfl ok8 rfl rfl (fun w hw => laws_vBig.ok h50 w ((fun _ hw => hr_a0.sep hw) w hw))) ?_
 refine F.nil (Nrm.seq (Tri.cond (b := t50) rfl (fun g_1 => ?_) (fun g_1 => ?_)))
 ·replace h := if_tt g_1 h
  refine Tri.seq (Tri.reg (l := [0]) rfl ?_)
  refine F.qn rfl rfl rfl rfl (r_assign rfl) ?_
  refine F.nil (Nrm.seq (Tri.ret ?_))
  refine Rtn.then ?_
  cases h
  exact Rtn.body (.tmp rfl .nil) (fun w hw => ⟨rfl, hw.ext⟩)
 ·replace h := if_ff g_1 h
  refine Tri.skip (Nrm.seq (Tri.seq ?_))
  obtain ⟨⟨t53_1, t53_2, t53_3, t53_4, t53_5⟩, h53, h⟩ := bind_some h
  refine Tri.reg (l := [0, 1, 2, 3, 4, 5, 6, 7, 8, 9]) rfl ?_
  refine F.qn rfl rfl rfl rfl (r_move rfl) ?_
  refine F.mn rfl rfl rfl rfl (m_callF (xs := _) rfl ok33 rfl rfl (fun w hw => spec_DrawFillingWins.ok h53 w ((fun _ hw => hr_a0.sep hw) w hw))) ?_
  rintro _ _ ⟨_, ⟨v53_1, S53_1, v53_2, S53_2, v53_3, S53_3, rfl, hl_v53_1, hl_v53_2, hl_v53_3, rfl⟩, rfl⟩
  refine F.qn rfl rfl rfl rfl (r_move rfl) ?_
  iterate 3 refine F.qn rfl rfl rfl rfl (r_extract rfl rfl) ?_
  refine F.mn rfl rfl rfl rfl (m_alloc ti27) ?_
  rintro _ _ ⟨b3_1, rfl, rfl⟩
  refine F.ef0 rfl rfl (wanted_none rfl) (d_storeG0 (i := 0) (cs2 := [.int .i64 t53_1, v53_1, v53_2]) ti27 rfl rfl rfl rfl rfl (Nat.le_of_ble_eq_true rfl) (lf_cons rfl (lf_cons (sl_leaf hl_v53_1) (lf_cons (sl_leaf hl_v53_2) lf_nil)))) ?_
  rintro _ _ ⟨rfl, rfl⟩
  refine F.qn rfl rfl rfl rfl (r_assign rfl) ?_
  refine F.qn rfl rfl rfl rfl (r_assign rfl) ?_
  refine F.nil (Nrm.seq (Tri.seq ?_))
  obtain ⟨⟨t61_1, t61_2, t61_3, t61_4⟩, h61, h⟩ := bind_some h
  refine Tri.reg (l := [0, 1, 2, 3, 4, 5, 6, 7, 8, 9]) rfl ?_
  refine F.qn rfl rfl rfl rfl (r_loadA ta27 ti27 rfl rfl (fun w hw => (box_cells (i := 0) rfl w hw))) ?_
  refine F.qn rfl rfl rfl rfl (r_move rfl) ?_
  refine F.qn rfl rfl rfl rfl (r_move rfl) ?_
  refine F.mn rfl rfl rfl rfl (m_callF (xs := _) rfl ok31 rfl rfl (fun w hw => impl_LayKeys.ok h61 w ((rd_sl (i := 1) rfl) w hw) ((rd_sl (i := 2) rfl) w hw) ((rd_sl (i := 3) rfl) w hw))) ?_
  rintro _ _ ⟨_, ⟨v61_1, S61_1, v61_2, S61_2, rfl, hl_v61_1, hl_v61_2, rfl⟩, rfl⟩
  refine F.qn rfl rfl rfl rfl (r_move rfl) ?_
  refine F.qn rfl rfl rfl rfl (r_extract rfl rfl) ?_
  refine F.qn rfl rfl rfl rfl (r_extract rfl rfl) ?_
  refine F.mn rfl rfl rfl rfl (m_alloc ti27) ?_
  rintro _ _ ⟨b6_1, rfl, rfl⟩
  refine F.ef0 rfl rfl (wanted_none rfl) (d_storeG0 (i := 0) (cs2 := [.int .i64 t61_1, v61_1, v61_2]) ti27 rfl rfl rfl rfl rfl (Nat.le_of_ble_eq_true rfl) (lf_cons rfl (lf_cons (sl_leaf hl_v61_1) (lf_cons (sl_leaf hl_v61_2) lf_nil)))) ?_
  rintro _ _ ⟨rfl, rfl⟩
  refine F.qn rfl rfl rfl rfl (r_assign rfl) ?_
  refine F.nil (Nrm.seq (Tri.seq ?_))
  obtain ⟨⟨t68_1, t68_2, t68_3, t68_4⟩, h68, h⟩ := bind_some h
  refine Tri.reg (l := [0, 1, 2, 3, 4, 5, 6, 7, 8, 9]) rfl ?_
  refine F.qn rfl rfl rfl rfl (r_loadA ta27 ti27 rfl rfl (fun w hw => (box_cells (i := 3) rfl w hw))) ?_
  refine F.qn rfl rfl rfl rfl (r_move rfl) ?_
  refine F.qn rfl rfl rfl rfl (r_move rfl) ?_
  refine F.mn rfl rfl rfl rfl (m_callF (xs := _) rfl ok34 rfl rfl (fun w hw => spec_LayKeys.ok h68 w ((rd_sl (i := 4) rfl) w hw) ((rd_sl (i := 5) rfl) w hw) ((rd_sl (i := 6) rfl) w hw))) ?_
  rintro _ _ ⟨_, ⟨v68_1, S68_1, v68_2, S68_2, rfl, hl_v68_1, hl_v68_2, rfl⟩, rfl⟩
  refine F.qn rfl rfl rfl rfl (r_move rfl) ?_
  refine F.qn rfl rfl rfl rfl (r_extract rfl rfl) ?_
  refine F.qn rfl rfl rfl rfl (r_extract rfl rfl) ?_
  refine F.mn rfl rfl rfl rfl (m_alloc ti27) ?_
  rintro _ _ ⟨b8_1, rfl, rfl⟩
  refine F.ef0 rfl rfl (wanted_none rfl) (d_storeG0 (i := 0) (cs2 := [.int .i64 t68_1, v68_1, v68_2]) ti27 rfl rfl rfl rfl rfl (Nat.le_of_ble_eq_true rfl) (lf_cons rfl (lf_cons (sl_leaf hl_v68_1) (lf_cons (sl_leaf hl_v68_2) lf_nil)))) ?_
  rintro _ _ ⟨rfl, rfl⟩
  refine F.qn rfl rfl rfl rfl (r_assign rfl) ?_
  refine F.nil (Nrm.seq (Tri.seq ?_))
  obtain ⟨⟨t75_1, t75_2⟩, h75, h⟩ := bind_some h
  refine Tri.reg (l := [0, 1, 2, 3, 4, 5, 6, 7, 8]) rfl ?_
  refine F.qn rfl rfl rfl rfl (r_loadA ta27 ti27 rfl rfl (fun w hw => (box_cells (i := 6) rfl w hw))) ?_
  refine F.qn rfl rfl rfl rfl (r_move rfl) ?_
  refine F.qn rfl rfl rfl rfl (r_move rfl) ?_
  refine F.qcn rfl rfl rfl rfl (q_callF (xs := _) rfl ok23 rfl rfl (fun w hw => impl_FillingWins.ok h75 w ((rd_sl (i := 7) rfl) w hw) ((rd_sl (i := 8) rfl) w hw) ((rd_sl (i := 9) rfl) w hw))) ?_
  refine F.qn rfl rfl rfl rfl (r_move rfl) ?_
  refine F.qn rfl rfl rfl rfl (r_extract rfl rfl) ?_
  refine F.qn rfl rfl rfl rfl (r_extract rfl rfl) ?_
  refine F.qn rfl rfl rfl rfl (r_assign rfl) ?_
  refine F.qn rfl rfl rfl rfl (r_assign rfl) ?_
  refine F.nil (Nrm.seq (Tri.seq ?_))
  obtain ⟨⟨t82_1, t82_2⟩, h82, h⟩ := bind_some h
  refine Tri.reg (l := [0, 1, 2, 3, 4, 5, 6, 7, 8]) rfl ?_
  refine F.qn rfl rfl rfl rfl (r_loadA ta27 ti27 rfl rfl (fun w hw => (box_cells (i := 6) rfl w hw))) ?_
  refine F.qn rfl rfl rfl rfl (r_move rfl) ?_
  refine F.qn rfl rfl rfl rfl (r_move rfl) ?_
  refine F.qcn rfl rfl rfl rfl (q_callF (xs := _) rfl ok35 rfl rfl (fun w hw => spec_FillingWins.ok h82 w ((rd_sl (i := 7) rfl) w hw) ((rd_sl (i := 8) rfl) w hw) ((rd_sl (i := 9) rfl) w hw))) ?_
  refine F.qn rfl rfl rfl rfl (r_move rfl) ?_
  refine F.qn rfl rfl rfl rfl (r_extract rfl rfl) ?_
  refine F.qn rfl rfl rfl rfl (r_extract rfl rfl) ?_
  refine F.qn rfl rfl rfl rfl (r_assign rfl) ?_
  refine F.qn rfl rfl rfl rfl (r_assign rfl) ?_
  refine F.nil (Nrm.seq (Tri.seq ?_))
  obtain ⟨⟨t89_1, t89_2⟩, h89, h⟩ := bind_some h
  refine Tri.reg (l := [0, 1, 2, 3, 4, 5, 6, 7, 8]) rfl ?_
  refine F.qn rfl rfl rfl rfl (r_loadA ta27 ti27 rfl rfl (fun w hw => (box_cells (i := 6) rfl w hw))) ?_
  refine F.qn rfl rfl rfl rfl (r_move rfl) ?_
  refine F.qn rfl rfl rfl rfl (r_move rfl) ?_
  refine F.qcn rfl rfl rfl rfl (q_callF (xs := _) rfl ok24 rfl rfl (fun w hw => impl_FillingDepth.ok h89 w ((rd_sl (i := 7) rfl) w hw) ((rd_sl (i := 8) rfl) w hw) ((rd_sl (i := 9) rfl) w hw))) ?_
  refine F.qn rfl rfl rfl rfl (r_move rfl) ?_
  refine F.qn rfl rfl rfl rfl (r_extract rfl rfl) ?_
  refine F.qn rfl rfl rfl rfl (r_extract rfl rfl) ?_
  refine F.qn rfl rfl rfl rfl (r_assign rfl) ?_
  refine F.qn rfl rfl rfl rfl (r_assign rfl) ?_
  refine F.nil (Nrm.seq (Tri.seq ?_))
  obtain ⟨⟨t96_1, t96_2⟩, h96, h⟩ := bind_some h
  refine Tri.reg (l := [0, 1, 2, 3, 4, 5, 6, 7, 8]) rfl ?_
  refine F.qn rfl rfl rfl rfl (r_loadA ta27 ti27 rfl rfl (fun w hw => (box_cells (i := 6) rfl w hw))) ?_
  refine F.qn rfl rfl rfl rfl (r_move rfl) ?_
  refine F.qn rfl rfl rfl rfl (r_move rfl) ?_
  refine F.qcn rfl rfl rfl rfl (q_callF (xs := _) rfl ok36 rfl rfl (fun w hw => spec_FillingDepth.ok h96 w ((rd_sl (i := 7) rfl) w hw) ((rd_sl (i := 8) rfl) w hw) ((rd_sl (i := 9) rfl) w hw))) ?_
  refine F.qn rfl rfl rfl rfl (r_move rfl) ?_
  refine F.qn rfl rfl rfl rfl (r_extract rfl rfl) ?_
  refine F.qn rfl rfl rfl rfl (r_extract rfl rfl) ?_
  refine F.qn rfl rfl rfl rfl (r_assign rfl) ?_
  refine F.qn rfl rfl rfl rfl (r_assign rfl) ?_
  refine F.nil (Nrm.seq (Tri.seq ?_))
  obtain ⟨⟨t103_1, t103_2⟩, h103, h⟩ := bind_some h
  refine Tri.reg (l := [0, 1, 2, 3, 4, 5, 6, 7, 8]) rfl ?_
  refine F.qn rfl rfl rfl rfl (r_loadA ta27 ti27 rfl rfl (fun w hw => (box_cells (i := 6) rfl w hw))) ?_
  refine F.qn rfl rfl rfl rfl (r_move rfl) ?_
  refine F.qn rfl rfl rfl rfl (r_move rfl) ?_
  refine F.mn rfl rfl rfl rfl (m_callF (xs := _) rfl ok37 rfl rfl (fun w hw => impl_GoodSwaps.ok h103 w ((rd_sl (i := 7) rfl) w hw) ((rd_sl (i := 8) rfl) w hw) ((rd_sl (i := 9) rfl) w hw))) ?_
  rintro _ _ ⟨_, ⟨v103_1, S103_1, rfl, hl_v103_1, rfl⟩, rfl⟩
  refine F.qn rfl rfl rfl rfl (r_move rfl) ?_
  refine F.qn rfl rfl rfl rfl (r_extract rfl rfl) ?_
  refine F.qn rfl rfl rfl rfl (r_extract rfl rfl) ?_
  refine F.qn rfl rfl rfl rfl (r_assign rfl) ?_
  refine F.qn rfl rfl rfl rfl (r_assign rfl) ?_
  refine F.nil (Nrm.seq (Tri.seq ?_))
  obtain ⟨⟨t110_1, t110_2⟩, h110, h⟩ := bind_some h
  refine Tri.reg (l := [0, 1, 2, 3, 4, 5, 6, 7, 8]) rfl ?_
  refine F.qn rfl rfl rfl rfl (r_loadA ta27 ti27 rfl rfl (fun w hw => (box_cells (i := 7) rfl w hw))) ?_
  refine F.qn rfl rfl rfl rfl (r_move rfl) ?_
  refine F.qn rfl rfl rfl rfl (r_move rfl) ?_
  refine F.mn rfl rfl rfl rfl (m_callF (xs := _) rfl ok38 rfl rfl (fun w hw => spec_GoodSwaps.ok h110 w ((rd_sl (i := 8) rfl) w hw) ((rd_sl (i := 9) rfl) w hw) ((rd_sl (i := 10) rfl) w hw))) ?_
  rintro _ _ ⟨_, ⟨v110_1, S110_1, rfl, hl_v110_1, rfl⟩, rfl⟩
  refine F.qn rfl rfl rfl rfl (r_move rfl) ?_
  refine F.qn rfl rfl rfl rfl (r_extract rfl rfl) ?_
  refine F.qn rfl rfl rfl rfl (r_extract rfl rfl) ?_
  refine F.qn rfl rfl rfl rfl (r_assign rfl) ?_
  refine F.qn rfl rfl rfl rfl (r_assign rfl) ?_
  refine F.nil (Nrm.seq (Tri.seq ?_))
  obtain ⟨⟨t117_1, t117_2⟩, h117, h⟩ := bind_some h
  refine Tri.reg (l := [0, 1, 2, 3, 4, 5, 6, 7, 8]) rfl ?_
  refine F.qn rfl rfl rfl rfl (r_loadA ta27 ti27 rfl rfl (fun w hw => (box_cells (i := 8) rfl w hw))) ?_
  refine F.qn rfl rfl rfl rfl (r_move rfl) ?_
  refine F.qn rfl rfl rfl rfl (r_move rfl) ?_
  refine F.qcn rfl rfl rfl rfl (q_callF (xs := _) rfl ok39 rfl rfl (fun w hw => impl_IsFilling.ok h117 w ((rd_sl (i := 9) rfl) w hw) ((rd_sl (i := 10) rfl) w hw) ((rd_sl (i := 11) rfl) w hw))) ?_
  refine F.qn rfl rfl rfl rfl (r_move rfl) ?_
  refine F.qn rfl rfl rfl rfl (r_extract rfl rfl) ?_
  refine F.qn rfl rfl rfl rfl (r_extract rfl rfl) ?_
  refine F.qn rfl rfl rfl rfl (r_assign rfl) ?_
  refine F.qn rfl rfl rfl rfl (r_assign rfl) ?_
  refine F.nil (Nrm.seq (Tri.seq ?_))
  obtain ⟨⟨t124_1, t124_2⟩, h124, h⟩ := bind_some h
  refine Tri.reg (l := [0, 1, 2, 3, 4, 5, 6, 7, 8]) rfl ?_
  refine F.qn rfl rfl rfl rfl (r_loadA ta27 ti27 rfl rfl (fun w hw => (box_cells (i := 8) rfl w hw))) ?_
  refine F.qn rfl rfl rfl rfl (r_move rfl) ?_
  refine F.qn rfl rfl rfl rfl (r_move rfl) ?_
  refine F.qcn rfl rfl rfl rfl (q_callF (xs := _) rfl ok40 rfl rfl (fun w hw => spec_IsFilling.ok h124 w ((rd_sl (i := 9) rfl) w hw) ((rd_sl (i := 10) rfl) w hw) ((rd_sl (i := 11) rfl) w hw))) ?_
  refine F.qn rfl rfl rfl rfl (r_move rfl) ?_
  refine F.qn rfl rfl rfl rfl (r_extract rfl rfl) ?_
  refine F.qn rfl rfl rfl rfl (r_extract rfl rfl) ?_
  refine F.qn rfl rfl rfl rfl (r_assign rfl) ?_
  refine F.qn rfl rfl rfl rfl (r_assign rfl) ?_
  refine F.nil (Nrm.seq (Tri.seq ?_))
  obtain ⟨t129, h129, h⟩ := bind_some h
  obtain ⟨⟨t130_1, t130_2, t130_3, t130_4, t130_5, t130_6, t130_7⟩, h130, h⟩ := bind_some h
  refine Tri.reg (l := List.range 15) rfl ?_
  refine F.qn rfl rfl rfl rfl (r_move rfl) ?_
  refine F.mn rfl rfl rfl rfl (m_callF (xs := _) rfl ok17 rfl rfl (fun w hw => laws_vCut.ok h129 w ((fun _ hw => hr_a0.sep hw) w hw))) ?_
  rintro v129_1 _ ⟨_, ⟨S129_1, hl_v129_1, rfl⟩, rfl⟩
  refine F.mn rfl rfl rfl rfl (m_callF (xs := _) rfl ok41 rfl rfl (fun w hw => spec_DrawSwapFilling.ok h130 w ((rd_sl (i := 0) rfl) w hw))) ?_
  rintro _ _ ⟨_, ⟨v130_1, S130_1, v130_2, S130_2, v130_3, S130_3, rfl, hl_v130_1, hl_v130_2, hl_v130_3, rfl⟩, rfl⟩
  refine F.qn rfl rfl rfl rfl (r_move rfl) ?_
  iterate 5 refine F.qn rfl rfl rfl rfl (r_extract rfl rfl) ?_
  refine F.mn rfl rfl rfl rfl (m_alloc ti27) ?_
  rintro _ _ ⟨b26_1, rfl, rfl⟩
  refine F.ef0 rfl rfl (wanted_none rfl) (d_storeG0 (i := 0) (cs2 := [.int .i64 t130_1, v130_1, v130_2]) ti27 rfl rfl rfl rfl rfl (Nat.le_of_ble_eq_true rfl) (lf_cons rfl (lf_cons (sl_leaf hl_v130_1) (lf_cons (sl_leaf hl_v130_2) lf_nil)))) ?_
  rintro _ _ ⟨rfl, rfl⟩
  iterate 4 refine F.qn rfl rfl rfl rfl (r_assign rfl) ?_
  refine F.nil (Nrm.seq (Tri.seq ?_))
  obtain ⟨⟨t142_1, t142_2⟩, h142, h⟩ := bind_some h
  refine Tri.reg (l := [0, 1, 2, 3, 4, 5, 6, 7, 8, 9, 10]) rfl ?_
  refine F.qn rfl rfl rfl rfl (r_loadA ta27 ti27 rfl rfl (fun w hw => (box_cells (i := 0) rfl w hw))) ?_
  iterate 4 refine F.qn rfl rfl rfl rfl (r_move rfl) ?_
  refine F.mn rfl rfl rfl rfl (m_callF (xs := _) rfl ok42 rfl rfl (fun w hw => impl_SwapFilling.ok h142 w ((rd_sl (i := 1) rfl) w hw) ((rd_sl (i := 2) rfl) w hw) ((rd_sl (i := 3) rfl) w hw))) ?_
  rintro _ _ ⟨_, ⟨v142_1, S142_1, rfl, hl_v142_1, rfl⟩, rfl⟩
  refine F.qn rfl rfl rfl rfl (r_move rfl) ?_
  refine F.qn rfl rfl rfl rfl (r_extract rfl rfl) ?_
  refine F.qn rfl rfl rfl rfl (r_extract rfl rfl) ?_
  refine F.qn rfl rfl rfl rfl (r_assign rfl) ?_
  refine F.qn rfl rfl rfl rfl (r_assign rfl) ?_
  refine F.nil (Nrm.seq (Tri.seq ?_))
  obtain ⟨⟨t151_1, t151_2⟩, h151, h⟩ := bind_some h
  refine Tri.reg (l := [0, 1, 2, 3, 4, 5, 6, 7, 8, 9, 10]) rfl ?_
  refine F.qn rfl rfl rfl rfl (r_loadA ta27 ti27 rfl rfl (fun w hw => (box_cells (i := 1) rfl w hw))) ?_
  iterate 4 refine F.qn rfl rfl rfl rfl (r_move rfl) ?_
  refine F.mn rfl rfl rfl rfl (m_callF (xs := _) rfl ok43 rfl rfl (fun w hw => spec_SwapFilling.ok h151 w ((rd_sl (i := 2) rfl) w hw) ((rd_sl (i := 3) rfl) w hw) ((rd_sl (i := 4) rfl) w hw))) ?_
  rintro _ _ ⟨_, ⟨v151_1, S151_1, rfl, hl_v151_1, rfl⟩, rfl⟩
  refine F.qn rfl rfl rfl rfl (r_move rfl) ?_
  refine F.qn rfl rfl rfl rfl (r_extract rfl rfl) ?_
  refine F.qn rfl rfl rfl rfl (r_extract rfl rfl) ?_
  refine F.qn rfl rfl rfl rfl (r_assign rfl) ?_
  refine F.qn rfl rfl rfl rfl (r_assign rfl) ?_
  refine F.nil (Nrm.seq (Tri.seq (Tri.seq ?_)))
  obtain ⟨y240, hE_1, h⟩ := bind_some h
  refine Tri.cut (fun e' C' => e' = [(3, .pointer (some ⟨b3_1, 0, none⟩)), (4, .int .i64 t53_4), (5, v53_3), (6, .pointer (some ⟨b6_1, 0, none⟩)), (7, .bool t61_4), (10, .bool t75_1), (14, .int .i64 t89_1), (18, v103_1), (19, .bool t103_2), (26, .pointer (some ⟨b26_1, 0, none⟩)), (27, .int .i64 t130_4), (28, v130_3), (29, .int .i64 t130_6), (30, .int .i64 t130_7), (31, v142_1), (32, .bool t142_2), (240, .bool y240)] ∧ C' = Sep w noM [R.box b26_1 27 [.int .i64 t130_1, v130_1, v130_2], R.box b6_1 27 [.int .i64 t61_1, v61_1, v61_2], R.box b3_1 27 [.int .i64 t53_1, v53_1, v53_2], R.sl S103_1 v103_1 (t103_1 : List (Int × Int)), R.sl S130_1 v130_1 (t130_2 : List (Int × Int × Int)), R.sl S130_2 v130_2 (t130_3 : List (Int)), R.sl S130_3 v130_3 (t130_5 : List (Int)), R.sl S142_1 v142_1 (t142_1 : List (Int)), R.sl S53_1 v53_1 (t53_2 : List (Int × Int × Int)), R.sl S53_2 v53_2 (t53_3 : List (Int)), R.sl S53_3 v53_3 (t53_5 : List (Int)), R.sl S61_1 v61_1 (t61_2 : List (Int × Int × Int)), R.sl S61_2 v61_2 (t61_3 : List (Int))]) ?_ (fun hj_1 => ?_)
  ·rintro _ _ ⟨rfl, rfl⟩
   refine Nrm.seq (Tri.cond (b := y240) rfl (fun g_2 => ?_) (fun g_2 => ?_))
   ·replace h := if_tt g_2 h
    refine Tri.seq (Tri.reg (l := [0]) rfl ?_)
    refine F.qn rfl rfl rfl rfl (r_assign rfl) ?_
    refine F.nil (Nrm.seq (Tri.ret ?_))
    refine Rtn.then ?_
    cases h
    exact Rtn.body (.tmp rfl .nil) (fun w hw => ⟨rfl, hw.ext⟩)
   ·replace h := if_ff g_2 h
    refine Tri.skip (Nrm.seq (Tri.seq (Tri.seq (Tri.reg (l := [0]) rfl ?_))))
    refine F.qn rfl rfl rfl rfl (r_move rfl) ?_
    refine F.nil (Nrm.seq (Tri.cond (b := t142_2) rfl (fun g_3 => ?_) (fun g_3 => ?_)))
    ·replace h := if_tt g_3 h
     refine Tri.seq ?_
     obtain ⟨⟨t248_1, t248_2⟩, h248, h⟩ := bind_some h
     refine Tri.reg (l := [0, 1, 2, 3, 4, 5, 6, 7, 8, 9, 10]) rfl ?_
     refine F.qn rfl rfl rfl rfl (r_loadA ta27 ti27 rfl rfl (fun w hw => (box_cells (i := 0) rfl w hw))) ?_
     iterate 4 refine F.qn rfl rfl rfl rfl (r_move rfl) ?_
     refine F.mn rfl rfl rfl rfl (m_callF (xs := _) rfl ok42 rfl rfl (fun w hw => impl_SwapFilling.ok h248 w ((rd_sl (i := 4) rfl) w hw) ((rd_sl (i := 5) rfl) w hw) ((rd_sl (i := 7) rfl) w hw))) ?_
     rintro _ _ ⟨_, ⟨v248_1, S248_1, rfl, hl_v248_1, rfl⟩, rfl⟩
     refine F.qn rfl rfl rfl rfl (r_move rfl) ?_
     refine F.qn rfl rfl rfl rfl (r_extract rfl rfl) ?_
     refine F.qn rfl rfl rfl rfl (r_extract rfl rfl) ?_
     refine F.qn rfl rfl rfl rfl (r_assign rfl) ?_
     refine F.qn rfl rfl rfl rfl (r_assign rfl) ?_
     refine F.nil (Nrm.seq (Tri.seq ?_))
     obtain ⟨y265, hE_2, h⟩ := bind_some h
     refine Tri.cut (fun e' C' => e' = [(3, .pointer (some ⟨b3_1, 0, none⟩)), (4, .int .i64 t53_4), (5, v53_3), (6, .pointer (some ⟨b6_1, 0, none⟩)), (7, .bool t61_4), (10, .bool t75_1), (14, .int .i64 t89_1), (18, v103_1), (19, .bool t103_2), (265, .bool y265)] ∧ C' = Sep w noM [R.box b6_1 27 [.int .i64 t61_1, v61_1, v61_2], R.box b3_1 27 [.int .i64 t53_1, v53_1, v53_2], R.sl S103_1 v103_1 (t103_1 : List (Int × Int)), R.sl S53_1 v53_1 (t53_2 : List (Int × Int × Int)), R.sl S53_2 v53_2 (t53_3 : List (Int)), R.sl S53_3 v53_3 (t53_5 : List (Int)), R.sl S61_1 v61_1 (t61_2 : List (Int × Int × Int)), R.sl S61_2 v61_2 (t61_3 : List (Int))]) ?_ (fun hj_2 => ?_)
     ·rintro _ _ ⟨rfl, rfl⟩
      refine Nrm.seq (Tri.cond (b := y265) rfl (fun g_4 => ?_) (fun g_4 => ?_))
      ·replace h := if_tt g_4 h
       refine Tri.seq (Tri.reg (l := [0]) rfl ?_)
       refine F.qn rfl rfl rfl rfl (r_assign rfl) ?_
       refine F.nil (Nrm.seq (Tri.ret ?_))
       refine Rtn.then ?_
       cases h
       exact Rtn.body (.tmp rfl .nil) (fun w hw => ⟨rfl, hw.ext⟩)
      ·replace h := if_ff g_4 h
       refine Tri.skip (Nrm.seq (Tri.seq (Tri.seq (Tri.reg (l := [0, 1]) rfl ?_))))
       refine F.qn rfl rfl rfl rfl (r_move rfl) ?_
       refine F.qn rfl rfl rfl rfl (r_not rfl) ?_
       refine F.nil (Nrm.seq (Tri.cond (b := !t61_4) rfl (fun g_5 => ?_) (fun g_5 => ?_)))
       ·replace h := if_tt g_5 h
        refine Tri.seq (Tri.reg (l := [0]) rfl ?_)
        refine F.qn rfl rfl rfl rfl (r_assign rfl) ?_
        refine F.nil (Nrm.seq (Tri.ret ?_))
        refine Rtn.then ?_
        cases h
        exact Rtn.body (.tmp rfl .nil) (fun w hw => ⟨rfl, hw.ext⟩)
       ·replace h := if_ff g_5 h
        refine Tri.skip (Nrm.seq (Tri.seq ?_))
        obtain ⟨⟨t270_1, t270_2⟩, h270, h⟩ := bind_some h
        refine Tri.reg (l := [0, 1, 2, 3, 4, 5, 6]) rfl ?_
        refine F.qn rfl rfl rfl rfl (r_loadA ta27 ti27 rfl rfl (fun w hw => (box_cells (i := 0) rfl w hw))) ?_
        refine F.qcn rfl rfl rfl rfl (q_callF (xs := _) rfl ok46 rfl rfl (fun w hw => impl_WinRound.ok h270 w ((rd_sl (i := 6) rfl) w hw) ((rd_sl (i := 7) rfl) w hw))) ?_
        refine F.qn rfl rfl rfl rfl (r_move rfl) ?_
        refine F.qn rfl rfl rfl rfl (r_extract rfl rfl) ?_
        refine F.qn rfl rfl rfl rfl (r_extract rfl rfl) ?_
        refine F.qn rfl rfl rfl rfl (r_assign rfl) ?_
        refine F.qn rfl rfl rfl rfl (r_assign rfl) ?_
        refine F.nil (Nrm.seq (Tri.seq ?_))
        obtain ⟨⟨t275_1, t275_2⟩, h275, h⟩ := bind_some h
        refine Tri.reg (l := [0, 1, 2, 3, 4, 5, 6]) rfl ?_
        refine F.qn rfl rfl rfl rfl (r_move rfl) ?_
        refine F.mn rfl rfl rfl rfl (m_callF (xs := _) rfl ok22 rfl rfl (fun w hw => impl_ColoursOf.ok h275 w )) ?_
        rintro _ _ ⟨_, ⟨v275_1, S275_1, rfl, hl_v275_1, rfl⟩, rfl⟩
        refine F.qn rfl rfl rfl rfl (r_move rfl) ?_
        refine F.qn rfl rfl rfl rfl (r_extract rfl rfl) ?_
        refine F.qn rfl rfl rfl rfl (r_extract rfl rfl) ?_
        refine F.qn rfl rfl rfl rfl (r_assign rfl) ?_
        refine F.qn rfl rfl rfl rfl (r_assign rfl) ?_
        refine F.nil (Nrm.seq (Tri.seq (Tri.seq ?_)))
        obtain ⟨y299, hE_3, h⟩ := bind_some h
        refine Tri.cut (fun e' C' => e' = [(3, .pointer (some ⟨b3_1, 0, none⟩)), (4, .int .i64 t53_4), (5, v53_3), (6, .pointer (some ⟨b6_1, 0, none⟩)), (18, v103_1), (19, .bool t103_2), (39, v275_1), (299, .bool y299)] ∧ C' = Sep w noM [R.box b6_1 27 [.int .i64 t61_1, v61_1, v61_2], R.box b3_1 27 [.int .i64 t53_1, v53_1, v53_2], R.sl S103_1 v103_1 (t103_1 : List (Int × Int)), R.sl S275_1 v275_1 (t275_1 : List (Int)), R.sl S53_1 v53_1 (t53_2 : List (Int × Int × Int)), R.sl S53_2 v53_2 (t53_3 : List (Int)), R.sl S53_3 v53_3 (t53_5 : List (Int)), R.sl S61_1 v61_1 (t61_2 : List (Int × Int × Int)), R.sl S61_2 v61_2 (t61_3 : List (Int))]) ?_ (fun hj_3 => ?_)
        ·rintro _ _ ⟨rfl, rfl⟩
         refine Nrm.seq (Tri.cond (b := y299) rfl (fun g_6 => ?_) (fun g_6 => ?_))
         ·replace h := if_tt g_6 h
          refine Tri.seq (Tri.reg (l := [0]) rfl ?_)
          refine F.qn rfl rfl rfl rfl (r_assign rfl) ?_
          refine F.nil (Nrm.seq (Tri.ret ?_))
          refine Rtn.then ?_
          cases h
          exact Rtn.body (.tmp rfl .nil) (fun w hw => ⟨rfl, hw.ext⟩)
         ·replace h := if_ff g_6 h
          refine Tri.skip (Nrm.seq (Tri.seq (Tri.seq (Tri.reg (l := [0]) rfl ?_))))
          refine F.qn rfl rfl rfl rfl (r_assign rfl) ?_
          refine F.nil (Nrm.seq ?_)
          obtain ⟨s0, hE_4, h⟩ := bind_some h
          refine Tri.block ?_
          refine Tri.only [3, 4, 5, 6, 18, 19, 39, 41] rfl ?_
          refine Tri.pick [0, 1, 2, 3, 4, 5, 6, 7, 8] rfl rfl ?_
          refine Tri.rounds (fun n e' C' => ∃ (x41' : Int), laws_FnLaid.l0 k t53_1 t53_2 t53_3 t53_4 t53_5 t61_3 t103_1 t103_2 t275_1 n x41' = some s0 ∧ e' = [(3, .pointer (some ⟨b3_1, 0, none⟩)), (4, .int .i64 t53_4), (5, v53_3), (6, .pointer (some ⟨b6_1, 0, none⟩)), (18, v103_1), (19, .bool t103_2), (39, v275_1), (41, .int .i64 x41')] ∧ C' = Sep w noM [R.box b6_1 27 [.int .i64 t61_1, v61_1, v61_2], R.box b3_1 27 [.int .i64 t53_1, v53_1, v53_2], R.sl S103_1 v103_1 (t103_1 : List (Int × Int)), R.sl S275_1 v275_1 (t275_1 : List (Int)), R.sl S53_1 v53_1 (t53_2 : List (Int × Int × Int)), R.sl S53_2 v53_2 (t53_3 : List (Int)), R.sl S53_3 v53_3 (t53_5 : List (Int)), R.sl S61_1 v61_1 (t61_2 : List (Int × Int × Int)), R.sl S61_2 v61_2 (t61_3 : List (Int))]) k ?_ ?_ ?_
          ·exact ⟨0, hE_4, rfl, rfl⟩
          ·rintro _ _ ⟨_, hE_4, _⟩
           rw [laws_FnLaid.l0.eq_1] at hE_4; cases hE_4
          ·rintro n_1 _ _ ⟨x41, hE_4, rfl, rfl⟩ ih_1
           rw [laws_FnLaid.l0.eq_2] at hE_4
           refine Tri.seq (Tri.seq (Tri.reg (l := [0, 1, 2, 3]) rfl ?_))
           refine F.qn rfl rfl rfl rfl (r_move rfl) ?_
           refine F.qn rfl rfl rfl rfl (r_move rfl) ?_
           refine F.qn rfl rfl rfl rfl (r_len Try.underlying25 rfl hl_v53_3) ?_
           refine F.qn rfl rfl rfl rfl (r_lss rfl rfl) ?_
           refine F.nil (Nrm.seq (Tri.cond (b := decide (x41 < (t53_5.length : Int))) rfl (fun g_7 => ?_) (fun g_7 => ?_)))
           ·replace hE_4 := if_tt g_7 hE_4
            refine Tri.skip (Nrm.seq (Tri.seq (Tri.block ?_)))
            refine Tri.seq (Tri.seq ?_)
            obtain ⟨t310, h310, hE_4⟩ := bind_some hE_4
            obtain ⟨t312, h312, hE_4⟩ := bind_some hE_4
            obtain ⟨t316, h316, hE_4⟩ := bind_some hE_4
            obtain ⟨hs318, hE_4⟩ := ck hE_4
            refine Tri.drawA mixedT Sep.up [(0, true), (1, true), (2, true), (3, true), (4, true), (5, true), (6, true), (7, true), (8, true), (9, true), (10, true), (11, true), (12, true), (13, true), (14, true)] [] (by kernel_rfl) ?_
            refine S.qn rfl rfl rfl rfl (r_fieldAddr tf27_2 rfl) ?_
            refine S.qn rfl rfl rfl rfl (r_load ta25 rfl (fun w hw => cell_1 (box_cells (i := 0) rfl w hw) rfl)) ?_
            refine S.qn rfl rfl rfl rfl (r_move rfl) ?_
            refine S.qn rfl rfl rfl rfl (r_move rfl) ?_
            refine S.qn rfl rfl rfl rfl (r_indexAddrS Try.underlying25 ti3 rfl hl_v53_3 rfl (rdl_some h310).1 (rdl_some h310).2.1) ?_
            refine S.qn rfl rfl rfl rfl (r_load ta3 rfl (fun w hw => cell_0 (Rd.flat ((rd_sl (i := 6) rfl) w hw) (rdl_some h310).2.2) rfl)) ?_
            refine S.qn rfl rfl rfl rfl (r_indexAddrS Try.underlying25 ti3 rfl hl_v61_2 rfl (rdl_some h312).1 (rdl_some h312).2.1) ?_
            refine S.qn rfl rfl rfl rfl (r_load ta3 rfl (fun w hw => cell_0 (Rd.flat ((rd_sl (i := 8) rfl) w hw) (rdl_some h312).2.2) rfl)) ?_
            refine S.qn rfl rfl rfl rfl (r_move rfl) ?_
            refine S.qn rfl rfl rfl rfl (r_move rfl) ?_
            refine S.qn rfl rfl rfl rfl (r_indexAddrS Try.underlying25 ti3 rfl hl_v275_1 rfl (rdl_some h316).1 (rdl_some h316).2.1) ?_
            refine S.qn rfl rfl rfl rfl (r_load ta3 rfl (fun w hw => cell_0 (Rd.flat ((rd_sl (i := 3) rfl) w hw) (rdl_some h316).2.2) rfl)) ?_
            refine S.qn rfl rfl rfl rfl (r_shr rfl rfl hs318) ?_
            refine S.qn rfl rfl rfl rfl (r_and rfl rfl) ?_
            refine S.qn rfl rfl rfl rfl (r_neq rfl rfl) ?_
            refine S.nil (F.nil (Nrm.seq (Tri.cond (b := (band (shr t312 t316) 1) != 1) rfl (fun g_8 => ?_) (fun g_8 => ?_))))
            ·replace hE_4 := if_tt g_8 hE_4
             refine Tri.seq (Tri.reg (l := [0]) rfl ?_)
             refine F.qn rfl rfl rfl rfl (r_assign rfl) ?_
             refine F.nil (Nrm.seq (Tri.ret ?_))
             refine Rtn.then ?_
             refine Rtn.block ?_
             refine Rtn.then ?_
             refine Rtn.then ?_
             refine Rtn.block ?_
             refine Rtn.then ?_
             cases hE_4
             replace h := Lr_inr h
             cases h
             exact Rtn.body (.tmp rfl .nil) (fun w hw => ⟨rfl, hw.ext⟩)
            ·replace hE_4 := if_ff g_8 hE_4
             refine Tri.skip (Nrm.seq (Tri.seq (Tri.reg (l := [0, 1, 2]) rfl ?_)))
             refine F.qn rfl rfl rfl rfl (r_move rfl) ?_
             refine F.qn rfl rfl rfl rfl (r_add rfl rfl) ?_
             refine F.qn rfl rfl rfl rfl (r_assign rfl) ?_
             refine F.nil (Nrm.seq ?_)
             obtain ⟨s1, hE_5, hE_4⟩ := bind_some hE_4
             refine Tri.block ?_
             refine Tri.only [3, 4, 5, 6, 18, 19, 39, 41, 42] rfl ?_
             refine Tri.pick [0, 1, 2, 3, 4, 5, 6, 7, 8] rfl rfl ?_
             refine Tri.rounds (fun n e' C' => ∃ (x42' : Int), laws_FnLaid.l1 k t53_1 t53_2 t53_3 t53_4 t53_5 t103_1 t103_2 t275_1 x41 n x42' = some s1 ∧ e' = [(3, .pointer (some ⟨b3_1, 0, none⟩)), (4, .int .i64 t53_4), (5, v53_3), (6, .pointer (some ⟨b6_1, 0, none⟩)), (18, v103_1), (19, .bool t103_2), (39, v275_1), (41, .int .i64 x41), (42, .int .i64 x42')] ∧ C' = Sep w noM [R.box b6_1 27 [.int .i64 t61_1, v61_1, v61_2], R.box b3_1 27 [.int .i64 t53_1, v53_1, v53_2], R.sl S103_1 v103_1 (t103_1 : List (Int × Int)), R.sl S275_1 v275_1 (t275_1 : List (Int)), R.sl S53_1 v53_1 (t53_2 : List (Int × Int × Int)), R.sl S53_2 v53_2 (t53_3 : List (Int)), R.sl S53_3 v53_3 (t53_5 : List (Int)), R.sl S61_1 v61_1 (t61_2 : List (Int × Int × Int)), R.sl S61_2 v61_2 (t61_3 : List (Int))]) k ?_ ?_ ?_
             ·exact ⟨w64 (x41 + 1), hE_5, rfl, rfl⟩
             ·rintro _ _ ⟨_, hE_5, _⟩
              rw [laws_FnLaid.l1.eq_1] at hE_5; cases hE_5
             ·rintro n_2 _ _ ⟨x42, hE_5, rfl, rfl⟩ ih_2
              rw [laws_FnLaid.l1.eq_2] at hE_5
              refine Tri.seq (Tri.seq ?_)
              obtain ⟨y329, hE_6, hE_5⟩ := bind_some hE_5
              refine Tri.cut (fun e' C' => e' = [(3, .pointer (some ⟨b3_1, 0, none⟩)), (4, .int .i64 t53_4), (5, v53_3), (6, .pointer (some ⟨b6_1, 0, none⟩)), (18, v103_1), (19, .bool t103_2), (39, v275_1), (41, .int .i64 x41), (42, .int .i64 x42), (329, .bool y329)] ∧ C' = Sep w noM [R.box b6_1 27 [.int .i64 t61_1, v61_1, v61_2], R.box b3_1 27 [.int .i64 t53_1, v53_1, v53_2], R.sl S103_1 v103_1 (t103_1 : List (Int × Int)), R.sl S275_1 v275_1 (t275_1 : List (Int)), R.sl S53_1 v53_1 (t53_2 : List (Int × Int × Int)), R.sl S53_2 v53_2 (t53_3 : List (Int)), R.sl S53_3 v53_3 (t53_5 : List (Int)), R.sl S61_1 v61_1 (t61_2 : List (Int × Int × Int)), R.sl S61_2 v61_2 (t61_3 : List (Int))]) ?_ (fun hj_4 => ?_)
              ·rintro _ _ ⟨rfl, rfl⟩
               refine Nrm.seq (Tri.cond (b := y329) rfl (fun g_9 => ?_) (fun g_9 => ?_))
               ·replace hE_5 := if_tt g_9 hE_5
                refine Tri.skip (Nrm.seq (Tri.seq (Tri.block ?_)))
                refine Tri.seq ?_
                obtain ⟨t338, h338, hE_5⟩ := bind_some hE_5
                obtain ⟨t342, h342, hE_5⟩ := bind_some hE_5
                obtain ⟨⟨t344_1, t344_2⟩, h344, hE_5⟩ := bind_some hE_5
                refine Tri.drawA mixedT Sep.up [(0, true), (1, true), (2, true), (3, true), (4, true), (5, true), (6, true), (7, true), (8, true), (9, true), (10, true), (11, false), (12, true), (13, true), (14, true), (15, true), (16, true)] [] (by kernel_rfl) ?_
                refine S.qn rfl rfl rfl rfl (r_loadA ta27 ti27 rfl rfl (fun w hw => (box_cells (i := 1) rfl w hw))) ?_
                iterate 4 refine S.qn rfl rfl rfl rfl (r_move rfl) ?_
                refine S.qn rfl rfl rfl rfl (r_indexAddrS Try.underlying25 ti3 rfl hl_v275_1 rfl (rdl_some h338).1 (rdl_some h338).2.1) ?_
                refine S.qn rfl rfl rfl rfl (r_load ta3 rfl (fun w hw => cell_0 (Rd.flat ((rd_sl (i := 3) rfl) w hw) (rdl_some h338).2.2) rfl)) ?_
                refine S.qn rfl rfl rfl rfl (r_move rfl) ?_
                refine S.qn rfl rfl rfl rfl (r_move rfl) ?_
                refine S.qn rfl rfl rfl rfl (r_indexAddrS Try.underlying25 ti3 rfl hl_v275_1 rfl (rdl_some h342).1 (rdl_some h342).2.1) ?_
                refine S.qn rfl rfl rfl rfl (r_load ta3 rfl (fun w hw => cell_0 (Rd.flat ((rd_sl (i := 3) rfl) w hw) (rdl_some h342).2.2) rfl)) ?_
                refine S.m rfl rfl rfl (wanted_none rfl) (m_callF (xs := _) rfl ok42 rfl rfl (fun w hw => impl_SwapFilling.ok h344 w ((rd_sl (i := 4) rfl) w hw) ((rd_sl (i := 5) rfl) w hw) ((rd_sl (i := 6) rfl) w hw))) ?_
                rintro _ _ ⟨_, ⟨v344_2, S344_2, rfl, hl_v344_2, rfl⟩, rfl⟩
                refine S.qn rfl rfl rfl rfl (r_move rfl) ?_
                refine S.qn rfl rfl rfl rfl (r_extract rfl rfl) ?_
                refine S.qn rfl rfl rfl rfl (r_extract rfl rfl) ?_
                refine S.qn rfl rfl rfl rfl (r_assign rfl) ?_
                refine S.qn rfl rfl rfl rfl (r_assign rfl) ?_
                refine S.nil (F.nil (Nrm.seq (Tri.seq ?_)))
                obtain ⟨⟨t351_1, t351_2⟩, h351, hE_5⟩ := bind_some hE_5
                refine Tri.reg (l := [0, 1, 2, 3, 4, 5, 6, 7, 8]) rfl ?_
                refine F.qn rfl rfl rfl rfl (r_loadA ta27 ti27 rfl rfl (fun w hw => (box_cells (i := 2) rfl w hw))) ?_
                refine F.qn rfl rfl rfl rfl (r_move rfl) ?_
                refine F.qn rfl rfl rfl rfl (r_move rfl) ?_
                refine F.qcn rfl rfl rfl rfl (q_callF (xs := _) rfl ok23 rfl rfl (fun w hw => impl_FillingWins.ok h351 w ((rd_sl (i := 5) rfl) w hw) ((rd_sl (i := 6) rfl) w hw) ((rd_sl (i := 0) rfl) w hw))) ?_
                refine F.qn rfl rfl rfl rfl (r_move rfl) ?_
                refine F.qn rfl rfl rfl rfl (r_extract rfl rfl) ?_
                refine F.qn rfl rfl rfl rfl (r_extract rfl rfl) ?_
                refine F.qn rfl rfl rfl rfl (r_assign rfl) ?_
                refine F.qn rfl rfl rfl rfl (r_assign rfl) ?_
                refine F.nil (Nrm.seq (Tri.seq (Tri.reg (l := [0]) rfl ?_)))
                refine F.qn rfl rfl rfl rfl (r_assign rfl) ?_
                refine F.nil (Nrm.seq (Tri.seq (Tri.seq (Tri.reg (l := [0]) rfl ?_))))
                refine F.qn rfl rfl rfl rfl (r_assign rfl) ?_
                refine F.nil (Nrm.seq ?_)
                obtain ⟨x47, hE_7, hE_5⟩ := bind_some hE_5
                refine Tri.block ?_
                refine Tri.only [3, 4, 5, 6, 18, 19, 39, 41, 42, 44, 45, 46, 47, 48] rfl ?_
                refine Tri.pick [1, 2, 3, 4, 5, 6, 7, 8, 9] rfl rfl ?_
                refine Tri.rounds (fun n e' C' => ∃ (x47' : Bool) (x48' : Int), laws_FnLaid.l2 k t103_1 t275_1 x41 x42 n x47' x48' = some x47 ∧ e' = [(3, .pointer (some ⟨b3_1, 0, none⟩)), (4, .int .i64 t53_4), (5, v53_3), (6, .pointer (some ⟨b6_1, 0, none⟩)), (18, v103_1), (19, .bool t103_2), (39, v275_1), (41, .int .i64 x41), (42, .int .i64 x42), (44, .bool t344_2), (45, .bool t351_1), (46, .bool t351_2), (47, .bool x47'), (48, .int .i64 x48')] ∧ C' = Sep w noM [R.box b6_1 27 [.int .i64 t61_1, v61_1, v61_2], R.box b3_1 27 [.int .i64 t53_1, v53_1, v53_2], R.sl S103_1 v103_1 (t103_1 : List (Int × Int)), R.sl S275_1 v275_1 (t275_1 : List (Int)), R.sl S53_1 v53_1 (t53_2 : List (Int × Int × Int)), R.sl S53_2 v53_2 (t53_3 : List (Int)), R.sl S53_3 v53_3 (t53_5 : List (Int)), R.sl S61_1 v61_1 (t61_2 : List (Int × Int × Int)), R.sl S61_2 v61_2 (t61_3 : List (Int))]) k ?_ ?_ ?_
                ·exact ⟨false, 0, hE_7, rfl, rfl⟩
                ·rintro _ _ ⟨_, _, hE_7, _⟩
                 rw [laws_FnLaid.l2.eq_1] at hE_7; cases hE_7
                ·rintro n_3 _ _ ⟨x47, x48, hE_7, rfl, rfl⟩ ih_3
                 rw [laws_FnLaid.l2.eq_2] at hE_7
                 refine Tri.seq (Tri.seq (Tri.reg (l := [0, 1, 2, 3]) rfl ?_))
                 refine F.qn rfl rfl rfl rfl (r_move rfl) ?_
                 refine F.qn rfl rfl rfl rfl (r_move rfl) ?_
                 refine F.qn rfl rfl rfl rfl (r_len Try.underlying56 rfl hl_v103_1) ?_
                 refine F.qn rfl rfl rfl rfl (r_lss rfl rfl) ?_
                 refine F.nil (Nrm.seq (Tri.cond (b := decide (x48 < (t103_1.length : Int))) rfl (fun g_10 => ?_) (fun g_10 => ?_)))
                 ·replace hE_7 := if_tt g_10 hE_7
                  refine Tri.skip (Nrm.seq (Tri.seq (Tri.block ?_)))
                  obtain ⟨y47, hE_8, hE_7⟩ := bind_some hE_7
                  refine Tri.cut (fun e' C' => e' = [(3, .pointer (some ⟨b3_1, 0, none⟩)), (4, .int .i64 t53_4), (5, v53_3), (6, .pointer (some ⟨b6_1, 0, none⟩)), (18, v103_1), (19, .bool t103_2), (39, v275_1), (41, .int .i64 x41), (42, .int .i64 x42), (44, .bool t344_2), (45, .bool t351_1), (46, .bool t351_2), (47, .bool y47), (48, .int .i64 x48)] ∧ C' = Sep w noM [R.box b6_1 27 [.int .i64 t61_1, v61_1, v61_2], R.box b3_1 27 [.int .i64 t53_1, v53_1, v53_2], R.sl S103_1 v103_1 (t103_1 : List (Int × Int)), R.sl S275_1 v275_1 (t275_1 : List (Int)), R.sl S53_1 v53_1 (t53_2 : List (Int × Int × Int)), R.sl S53_2 v53_2 (t53_3 : List (Int)), R.sl S53_3 v53_3 (t53_5 : List (Int)), R.sl S61_1 v61_1 (t61_2 : List (Int × Int × Int)), R.sl S61_2 v61_2 (t61_3 : List (Int))]) ?_ (fun hj_5 => ?_)
                  ·rintro _ _ ⟨rfl, rfl⟩
                   refine Nrm.block ?_
                   refine Nrm.seq (Tri.reg (l := [0, 1, 2]) rfl ?_)
                   refine F.qn rfl rfl rfl rfl (r_move rfl) ?_
                   refine F.qn rfl rfl rfl rfl (r_add rfl rfl) ?_
                   refine F.qn rfl rfl rfl rfl (r_assign rfl) ?_
                   refine F.nil (Nrm.round ?_)
                   refine Rnd.only [3, 4, 5, 6, 18, 19, 39, 41, 42, 44, 45, 46, 47, 48] rfl ?_
                   refine Rnd.pick [0, 1, 2, 3, 4, 5, 6, 7, 8] rfl rfl ?_
                   exact ih_3 _ _ ⟨y47, w64 (x48 + 1), hE_7, rfl, rfl⟩
                  ·rcases Bool.eq_false_or_eq_true (x47) with g361 | g361
                   ·replace hE_8 := if_tt g361 hE_8
                    refine Tri.drawA mixedT Sep.up [(0, true), (1, true), (2, true), (3, true), (4, true), (5, true), (6, true), (7, true), (8, true), (9, true), (10, true), (11, true), (12, true), (13, true), (14, true), (15, true), (16, true), (17, true)] [] (by kernel_rfl) ?_
                    refine S.qn rfl rfl rfl rfl (r_move rfl) ?_
                    refine S.qn rfl rfl rfl rfl (r_move rfl) ?_
                    iterate 14 refine S.sk rfl rfl rfl (wf rfl rfl rfl g361) ?_
                    refine S.qn rfl rfl rfl rfl (r_pick rfl rfl g361) ?_
                    refine S.qn rfl rfl rfl rfl (r_assign rfl) ?_
                    refine S.nil (F.nil ?_)
                    cases hE_8
                    refine Nrm.only [3, 4, 5, 6, 18, 19, 39, 41, 42, 44, 45, 46, 47, 48] rfl ?_
                    refine Nrm.pick [0, 1, 2, 3, 4, 5, 6, 7, 8] rfl rfl ?_
                    exact hj_5 _ _ ⟨rfl, rfl⟩
                   ·replace hE_8 := if_ff g361 hE_8
                    obtain ⟨t364, h364, hE_8⟩ := bind_some hE_8
                    obtain ⟨t368, h368, hE_8⟩ := bind_some hE_8
                    obtain ⟨t372, h372, hE_8⟩ := bind_some hE_8
                    refine Tri.drawA mixedT Sep.up [(0, true), (1, true), (2, true), (3, true), (4, true), (5, true), (6, true), (7, true), (8, true), (9, true), (10, true), (11, true), (12, true), (13, true), (14, true), (15, true), (16, true), (17, true)] [] (by kernel_rfl) ?_
                    refine S.qn rfl rfl rfl rfl (r_move rfl) ?_
                    refine S.qn rfl rfl rfl rfl (r_move rfl) ?_
                    refine S.qg rfl rfl rfl rfl rfl rfl g361 (r_move rfl) ?_
                    refine S.qg rfl rfl rfl rfl rfl rfl g361 (r_move rfl) ?_
                    refine S.qg rfl rfl rfl rfl rfl rfl g361 (r_indexAddrS Try.underlying56 ti64 rfl hl_v103_1 rfl (rdl_some h364).1 (rdl_some h364).2.1) ?_
                    refine S.qg rfl rfl rfl rfl rfl rfl g361 (r_loadA ta64 ti64 rfl rfl (fun w hw => (Rd.flat ((rd_sl (i := 2) rfl) w hw) (rdl_some h364).2.2))) ?_
                    refine S.qg rfl rfl rfl rfl rfl rfl g361 (r_move rfl) ?_
                    refine S.qg rfl rfl rfl rfl rfl rfl g361 (r_move rfl) ?_
                    refine S.qg rfl rfl rfl rfl rfl rfl g361 (r_indexAddrS Try.underlying25 ti3 rfl hl_v275_1 rfl (rdl_some h368).1 (rdl_some h368).2.1) ?_
                    refine S.qg rfl rfl rfl rfl rfl rfl g361 (r_load ta3 rfl (fun w hw => cell_0 (Rd.flat ((rd_sl (i := 3) rfl) w hw) (rdl_some h368).2.2) rfl)) ?_
                    refine S.qg rfl rfl rfl rfl rfl rfl g361 (r_move rfl) ?_
                    refine S.qg rfl rfl rfl rfl rfl rfl g361 (r_move rfl) ?_
                    refine S.qg rfl rfl rfl rfl rfl rfl g361 (r_indexAddrS Try.underlying25 ti3 rfl hl_v275_1 rfl (rdl_some h372).1 (rdl_some h372).2.1) ?_
                    refine S.qg rfl rfl rfl rfl rfl rfl g361 (r_load ta3 rfl (fun w hw => cell_0 (Rd.flat ((rd_sl (i := 3) rfl) w hw) (rdl_some h372).2.2) rfl)) ?_
                    refine S.qg rfl rfl rfl rfl rfl rfl g361 (r_buildA (qs := [(0, [.int .i64 t368]), (1, [.int .i64 t372])]) (cs := [.int .i64 t368, .int .i64 t372]) Try.underlying64 ti3 ti64 rfl (.cons rfl rfl (Nat.le_of_ble_eq_true rfl) (.cons rfl rfl (Nat.le_of_ble_eq_true rfl) .nil)) rfl rfl) ?_
                    refine S.qg rfl rfl rfl rfl rfl rfl g361 (r_eqlA2 Try.underlying64 Try.underlying3 ti3 ta3 rfl rfl eg64) ?_
                    refine S.qn rfl rfl rfl rfl (r_pickf rfl rfl g361) ?_
                    refine S.qn rfl rfl rfl rfl (r_assign rfl) ?_
                    refine S.nil (F.nil ?_)
                    cases hE_8
                    refine Nrm.only [3, 4, 5, 6, 18, 19, 39, 41, 42, 44, 45, 46, 47, 48] rfl ?_
                    refine Nrm.pick [0, 1, 2, 3, 4, 5, 6, 7, 8] rfl rfl ?_
                    exact hj_5 _ _ ⟨rfl, rfl⟩
                 ·replace hE_7 := if_ff g_10 hE_7
                  refine Tri.exit ?_
                  refine Exi.then ?_
                  refine Exi.then ?_
                  refine Exi.same ?_
                  cases hE_7
                  refine Nrm.seq (Tri.seq ?_)
                  obtain ⟨y387, hE_9, hE_5⟩ := bind_some hE_5
                  refine Tri.cut (fun e' C' => e' = [(3, .pointer (some ⟨b3_1, 0, none⟩)), (4, .int .i64 t53_4), (5, v53_3), (6, .pointer (some ⟨b6_1, 0, none⟩)), (18, v103_1), (19, .bool t103_2), (39, v275_1), (41, .int .i64 x41), (42, .int .i64 x42), (387, .bool y387)] ∧ C' = Sep w noM [R.box b6_1 27 [.int .i64 t61_1, v61_1, v61_2], R.box b3_1 27 [.int .i64 t53_1, v53_1, v53_2], R.sl S103_1 v103_1 (t103_1 : List (Int × Int)), R.sl S275_1 v275_1 (t275_1 : List (Int)), R.sl S53_1 v53_1 (t53_2 : List (Int × Int × Int)), R.sl S53_2 v53_2 (t53_3 : List (Int)), R.sl S53_3 v53_3 (t53_5 : List (Int)), R.sl S61_1 v61_1 (t61_2 : List (Int × Int × Int)), R.sl S61_2 v61_2 (t61_3 : List (Int))]) ?_ (fun hj_6 => ?_)
                  ·rintro _ _ ⟨rfl, rfl⟩
                   refine Nrm.seq (Tri.cond (b := y387) rfl (fun g_11 => ?_) (fun g_11 => ?_))
                   ·replace hE_5 := if_tt g_11 hE_5
                    refine Tri.seq (Tri.reg (l := [0]) rfl ?_)
                    refine F.qn rfl rfl rfl rfl (r_assign rfl) ?_
                    refine F.nil (Nrm.seq (Tri.ret ?_))
                    refine Rtn.block ?_
                    refine Rtn.then ?_
                    refine Rtn.then ?_
                    refine Rtn.block ?_
                    refine Rtn.block ?_
                    refine Rtn.then ?_
                    refine Rtn.then ?_
                    refine Rtn.block ?_
                    refine Rtn.then ?_
                    cases hE_5
                    replace hE_4 := Lr_inr hE_4
                    cases hE_4
                    replace h := Lr_inr h
                    cases h
                    exact Rtn.body (.tmp rfl .nil) (fun w hw => ⟨rfl, hw.ext⟩)
                   ·replace hE_5 := if_ff g_11 hE_5
                    refine Tri.skip (Nrm.block ?_)
                    refine Nrm.seq (Tri.reg (l := [0, 1, 2]) rfl ?_)
                    refine F.qn rfl rfl rfl rfl (r_move rfl) ?_
                    refine F.qn rfl rfl rfl rfl (r_add rfl rfl) ?_
                    refine F.qn rfl rfl rfl rfl (r_assign rfl) ?_
                    refine F.nil (Nrm.round ?_)
                    refine Rnd.only [3, 4, 5, 6, 18, 19, 39, 41, 42] rfl ?_
                    refine Rnd.pick [0, 1, 2, 3, 4, 5, 6, 7, 8] rfl rfl ?_
                    exact ih_2 _ _ ⟨w64 (x42 + 1), hE_5, rfl, rfl⟩
                  ·rcases Bool.eq_false_or_eq_true (!t344_2) with g379 | g379
                   ·replace hE_9 := if_tt g379 hE_9
                    refine Tri.reg (l := [0, 1, 2, 3, 4, 5, 6, 7, 8, 9, 10]) rfl ?_
                    refine F.qn rfl rfl rfl rfl (r_move rfl) ?_
                    refine F.qn rfl rfl rfl rfl (r_not rfl) ?_
                    refine F.qn rfl rfl rfl rfl (r_move rfl) ?_
                    refine F.sk rfl rfl rfl (wf rfl rfl rfl g379) ?_
                    refine F.sk rfl rfl rfl (wf rfl rfl rfl g379) ?_
                    refine F.qn rfl rfl rfl rfl (r_pick rfl rfl g379) ?_
                    refine F.qn rfl rfl rfl rfl (r_move rfl) ?_
                    iterate 3 refine F.sk rfl rfl rfl (wf rfl rfl rfl rfl) ?_
                    refine F.qn rfl rfl rfl rfl (r_pick rfl rfl rfl) ?_
                    refine F.nil ?_
                    cases hE_9
                    refine Nrm.only [3, 4, 5, 6, 18, 19, 39, 41, 42, 387] rfl ?_
                    refine Nrm.pick [0, 1, 2, 3, 4, 5, 6, 7, 8] rfl rfl ?_
                    exact hj_6 _ _ ⟨rfl, rfl⟩
                   ·replace hE_9 := if_ff g379 hE_9
                    rcases Bool.eq_false_or_eq_true (!t351_2) with g383 | g383
                    ·replace hE_9 := if_tt g383 hE_9
                     refine Tri.reg (l := [0, 1, 2, 3, 4, 5, 6, 7, 8, 9, 10]) rfl ?_
                     refine F.qn rfl rfl rfl rfl (r_move rfl) ?_
                     refine F.qn rfl rfl rfl rfl (r_not rfl) ?_
                     refine F.qn rfl rfl rfl rfl (r_move rfl) ?_
                     refine F.qg rfl rfl rfl rfl rfl rfl g379 (r_move rfl) ?_
                     refine F.qg rfl rfl rfl rfl rfl rfl g379 (r_not rfl) ?_
                     refine F.qn rfl rfl rfl rfl (r_pickf rfl rfl g379) ?_
                     refine F.qn rfl rfl rfl rfl (r_move rfl) ?_
                     iterate 3 refine F.sk rfl rfl rfl (wf rfl rfl rfl g383) ?_
                     refine F.qn rfl rfl rfl rfl (r_pick rfl rfl g383) ?_
                     refine F.nil ?_
                     cases hE_9
                     refine Nrm.only [3, 4, 5, 6, 18, 19, 39, 41, 42, 387] rfl ?_
                     refine Nrm.pick [0, 1, 2, 3, 4, 5, 6, 7, 8] rfl rfl ?_
                     exact hj_6 _ _ ⟨rfl, rfl⟩
                    ·replace hE_9 := if_ff g383 hE_9
                     refine Tri.reg (l := [0, 1, 2, 3, 4, 5, 6, 7, 8, 9, 10]) rfl ?_
                     refine F.qn rfl rfl rfl rfl (r_move rfl) ?_
                     refine F.qn rfl rfl rfl rfl (r_not rfl) ?_
                     refine F.qn rfl rfl rfl rfl (r_move rfl) ?_
                     refine F.qg rfl rfl rfl rfl rfl rfl g379 (r_move rfl) ?_
                     refine F.qg rfl rfl rfl rfl rfl rfl g379 (r_not rfl) ?_
                     refine F.qn rfl rfl rfl rfl (r_pickf rfl rfl g379) ?_
                     refine F.qn rfl rfl rfl rfl (r_move rfl) ?_
                     refine F.qg rfl rfl rfl rfl rfl rfl g383 (r_move rfl) ?_
                     refine F.qg rfl rfl rfl rfl rfl rfl g383 (r_move rfl) ?_
                     refine F.qg rfl rfl rfl rfl rfl rfl g383 (r_neqB Try.underlying4 rfl rfl) ?_
                     refine F.qn rfl rfl rfl rfl (r_pickf rfl rfl g383) ?_
                     refine F.nil ?_
                     cases hE_9
                     refine Nrm.only [3, 4, 5, 6, 18, 19, 39, 41, 42, 387] rfl ?_
                     refine Nrm.pick [0, 1, 2, 3, 4, 5, 6, 7, 8] rfl rfl ?_
                     exact hj_6 _ _ ⟨rfl, rfl⟩
               ·replace hE_5 := if_ff g_9 hE_5
                refine Tri.exit ?_
                refine Exi.then ?_
                refine Exi.then ?_
                refine Exi.same ?_
                cases hE_5
                replace hE_4 := Lr_inl hE_4
                refine Nrm.block ?_
                refine Nrm.seq (Tri.reg (l := [0, 1, 2]) rfl ?_)
                refine F.qn rfl rfl rfl rfl (r_move rfl) ?_
                refine F.qn rfl rfl rfl rfl (r_add rfl rfl) ?_
                refine F.qn rfl rfl rfl rfl (r_assign rfl) ?_
                refine F.nil (Nrm.round ?_)
                refine Rnd.only [3, 4, 5, 6, 18, 19, 39, 41] rfl ?_
                refine Rnd.pick [0, 1, 2, 3, 4, 5, 6, 7, 8] rfl rfl ?_
                exact ih_1 _ _ ⟨w64 (x41 + 1), hE_4, rfl, rfl⟩
              ·rcases Bool.eq_false_or_eq_true (t103_2) with g324 | g324
               ·replace hE_6 := if_tt g324 hE_6
                refine Tri.reg (l := [0, 1, 2, 3, 4, 5, 6]) rfl ?_
                refine F.qn rfl rfl rfl rfl (r_move rfl) ?_
                refine F.qn rfl rfl rfl rfl (r_move rfl) ?_
                refine F.qg rfl rfl rfl rfl rfl rfl g324 (r_move rfl) ?_
                refine F.qg rfl rfl rfl rfl rfl rfl g324 (r_move rfl) ?_
                refine F.qg rfl rfl rfl rfl rfl rfl g324 (r_len Try.underlying25 rfl hl_v53_3) ?_
                refine F.qg rfl rfl rfl rfl rfl rfl g324 (r_lss rfl rfl) ?_
                refine F.qn rfl rfl rfl rfl (r_pick rfl rfl g324) ?_
                refine F.nil ?_
                cases hE_6
                refine Nrm.only [3, 4, 5, 6, 18, 19, 39, 41, 42, 329] rfl ?_
                refine Nrm.pick [0, 1, 2, 3, 4, 5, 6, 7, 8] rfl rfl ?_
                exact hj_4 _ _ ⟨rfl, rfl⟩
               ·replace hE_6 := if_ff g324 hE_6
                refine Tri.reg (l := [0, 1, 2, 3, 4, 5, 6]) rfl ?_
                refine F.qn rfl rfl rfl rfl (r_move rfl) ?_
                refine F.qn rfl rfl rfl rfl (r_move rfl) ?_
                iterate 4 refine F.sk rfl rfl rfl (wf rfl rfl rfl g324) ?_
                refine F.qn rfl rfl rfl rfl (r_pickf rfl rfl g324) ?_
                refine F.nil ?_
                cases hE_6
                refine Nrm.only [3, 4, 5, 6, 18, 19, 39, 41, 42, 329] rfl ?_
                refine Nrm.pick [0, 1, 2, 3, 4, 5, 6, 7, 8] rfl rfl ?_
                exact hj_4 _ _ ⟨rfl, rfl⟩
           ·replace hE_4 := if_ff g_7 hE_4
            refine Tri.exit ?_
            refine Exi.then ?_
            refine Exi.then ?_
            refine Exi.same ?_
            cases hE_4
            replace h := Lr_inl h
            refine Nrm.seq (Tri.seq (Tri.reg (l := [0]) rfl ?_))
            refine F.qn rfl rfl rfl rfl (r_assign rfl) ?_
            refine F.nil (Nrm.seq (Tri.ret ?_))
            cases h
            exact Rtn.body (.tmp rfl .nil) (fun w hw => ⟨rfl, hw.ext⟩)
        ·rcases Bool.eq_false_or_eq_true (t270_2 != t75_1) with g281 | g281
         ·replace hE_3 := if_tt g281 hE_3
          refine Tri.reg (l := List.range 22) rfl ?_
          refine F.qn rfl rfl rfl rfl (r_move rfl) ?_
          refine F.qn rfl rfl rfl rfl (r_move rfl) ?_
          refine F.qn rfl rfl rfl rfl (r_neqB Try.underlying4 rfl rfl) ?_
          refine F.qn rfl rfl rfl rfl (r_move rfl) ?_
          refine F.sk rfl rfl rfl (wf rfl rfl rfl g281) ?_
          refine F.sk rfl rfl rfl (wf rfl rfl rfl g281) ?_
          iterate 3 refine F.sk rfl rfl rfl (wanted_undef rfl rfl rfl) ?_
          refine F.sk rfl rfl rfl (wf rfl rfl rfl g281) ?_
          refine F.qn rfl rfl rfl rfl (r_pick rfl rfl g281) ?_
          refine F.qn rfl rfl rfl rfl (r_move rfl) ?_
          refine F.sk rfl rfl rfl (wf rfl rfl rfl rfl) ?_
          refine F.sk rfl rfl rfl (wf rfl rfl rfl rfl) ?_
          refine F.qn rfl rfl rfl rfl (r_pick rfl rfl rfl) ?_
          refine F.qn rfl rfl rfl rfl (r_move rfl) ?_
          iterate 5 refine F.sk rfl rfl rfl (wf rfl rfl rfl rfl) ?_
          refine F.qn rfl rfl rfl rfl (r_pick rfl rfl rfl) ?_
          refine F.nil ?_
          cases hE_3
          refine Nrm.only [3, 4, 5, 6, 18, 19, 39, 299] rfl ?_
          refine Nrm.pick [1, 2, 3, 0, 4, 5, 6, 7, 8] rfl rfl ?_
          exact hj_3 _ _ ⟨rfl, rfl⟩
         ·replace hE_3 := if_ff g281 hE_3
          rcases Bool.eq_false_or_eq_true (t75_1) with g283 | g283
          ·replace hE_3 := if_tt g283 hE_3
           rcases Bool.eq_false_or_eq_true (t270_1 != t89_1) with g289 | g289
           ·replace hE_3 := if_tt g289 hE_3
            refine Tri.reg (l := List.range 22) rfl ?_
            refine F.qn rfl rfl rfl rfl (r_move rfl) ?_
            refine F.qn rfl rfl rfl rfl (r_move rfl) ?_
            refine F.qn rfl rfl rfl rfl (r_neqB Try.underlying4 rfl rfl) ?_
            refine F.qn rfl rfl rfl rfl (r_move rfl) ?_
            refine F.qg rfl rfl rfl rfl rfl rfl g281 (r_move rfl) ?_
            refine F.qg rfl rfl rfl rfl rfl rfl g281 (r_move rfl) ?_
            refine F.qg rfl rfl rfl rfl rfl rfl g283 (r_move rfl) ?_
            refine F.qg rfl rfl rfl rfl rfl rfl g283 (r_move rfl) ?_
            refine F.qg rfl rfl rfl rfl rfl rfl g283 (r_neq rfl rfl) ?_
            refine F.qg rfl rfl rfl rfl rfl rfl g281 (r_pick rfl rfl g283) ?_
            refine F.qn rfl rfl rfl rfl (r_pickf rfl rfl g281) ?_
            refine F.qn rfl rfl rfl rfl (r_move rfl) ?_
            refine F.sk rfl rfl rfl (wf rfl rfl rfl g289) ?_
            refine F.sk rfl rfl rfl (wf rfl rfl rfl g289) ?_
            refine F.qn rfl rfl rfl rfl (r_pick rfl rfl g289) ?_
            refine F.qn rfl rfl rfl rfl (r_move rfl) ?_
            iterate 5 refine F.sk rfl rfl rfl (wf rfl rfl rfl rfl) ?_
            refine F.qn rfl rfl rfl rfl (r_pick rfl rfl rfl) ?_
            refine F.nil ?_
            cases hE_3
            refine Nrm.only [3, 4, 5, 6, 18, 19, 39, 299] rfl ?_
            refine Nrm.pick [1, 2, 3, 0, 4, 5, 6, 7, 8] rfl rfl ?_
            exact hj_3 _ _ ⟨rfl, rfl⟩
           ·replace hE_3 := if_ff g289 hE_3
            rcases Bool.eq_false_or_eq_true (!t275_2) with g293 | g293
            ·replace hE_3 := if_tt g293 hE_3
             refine Tri.reg (l := List.range 22) rfl ?_
             refine F.qn rfl rfl rfl rfl (r_move rfl) ?_
             refine F.qn rfl rfl rfl rfl (r_move rfl) ?_
             refine F.qn rfl rfl rfl rfl (r_neqB Try.underlying4 rfl rfl) ?_
             refine F.qn rfl rfl rfl rfl (r_move rfl) ?_
             refine F.qg rfl rfl rfl rfl rfl rfl g281 (r_move rfl) ?_
             refine F.qg rfl rfl rfl rfl rfl rfl g281 (r_move rfl) ?_
             refine F.qg rfl rfl rfl rfl rfl rfl g283 (r_move rfl) ?_
             refine F.qg rfl rfl rfl rfl rfl rfl g283 (r_move rfl) ?_
             refine F.qg rfl rfl rfl rfl rfl rfl g283 (r_neq rfl rfl) ?_
             refine F.qg rfl rfl rfl rfl rfl rfl g281 (r_pick rfl rfl g283) ?_
             refine F.qn rfl rfl rfl rfl (r_pickf rfl rfl g281) ?_
             refine F.qn rfl rfl rfl rfl (r_move rfl) ?_
             refine F.qg rfl rfl rfl rfl rfl rfl g289 (r_move rfl) ?_
             refine F.qg rfl rfl rfl rfl rfl rfl g289 (r_not rfl) ?_
             refine F.qn rfl rfl rfl rfl (r_pickf rfl rfl g289) ?_
             refine F.qn rfl rfl rfl rfl (r_move rfl) ?_
             iterate 5 refine F.sk rfl rfl rfl (wf rfl rfl rfl g293) ?_
             refine F.qn rfl rfl rfl rfl (r_pick rfl rfl g293) ?_
             refine F.nil ?_
             cases hE_3
             refine Nrm.only [3, 4, 5, 6, 18, 19, 39, 299] rfl ?_
             refine Nrm.pick [1, 2, 3, 0, 4, 5, 6, 7, 8] rfl rfl ?_
             exact hj_3 _ _ ⟨rfl, rfl⟩
            ·replace hE_3 := if_ff g293 hE_3
             refine Tri.reg (l := List.range 22) rfl ?_
             refine F.qn rfl rfl rfl rfl (r_move rfl) ?_
             refine F.qn rfl rfl rfl rfl (r_move rfl) ?_
             refine F.qn rfl rfl rfl rfl (r_neqB Try.underlying4 rfl rfl) ?_
             refine F.qn rfl rfl rfl rfl (r_move rfl) ?_
             refine F.qg rfl rfl rfl rfl rfl rfl g281 (r_move rfl) ?_
             refine F.qg rfl rfl rfl rfl rfl rfl g281 (r_move rfl) ?_
             refine F.qg rfl rfl rfl rfl rfl rfl g283 (r_move rfl) ?_
             refine F.qg rfl rfl rfl rfl rfl rfl g283 (r_move rfl) ?_
             refine F.qg rfl rfl rfl rfl rfl rfl g283 (r_neq rfl rfl) ?_
             refine F.qg rfl rfl rfl rfl rfl rfl g281 (r_pick rfl rfl g283) ?_
             refine F.qn rfl rfl rfl rfl (r_pickf rfl rfl g281) ?_
             refine F.qn rfl rfl rfl rfl (r_move rfl) ?_
             refine F.qg rfl rfl rfl rfl rfl rfl g289 (r_move rfl) ?_
             refine F.qg rfl rfl rfl rfl rfl rfl g289 (r_not rfl) ?_
             refine F.qn rfl rfl rfl rfl (r_pickf rfl rfl g289) ?_
             refine F.qn rfl rfl rfl rfl (r_move rfl) ?_
             refine F.qg rfl rfl rfl rfl rfl rfl g293 (r_move rfl) ?_
             refine F.qg rfl rfl rfl rfl rfl rfl g293 (r_len Try.underlying25 rfl hl_v275_1) ?_
             refine F.qg rfl rfl rfl rfl rfl rfl g293 (r_move rfl) ?_
             refine F.qg rfl rfl rfl rfl rfl rfl g293 (r_len Try.underlying25 rfl hl_v53_3) ?_
             refine F.qg rfl rfl rfl rfl rfl rfl g293 (r_neq rfl rfl) ?_
             refine F.qn rfl rfl rfl rfl (r_pickf rfl rfl g293) ?_
             refine F.nil ?_
             cases hE_3
             refine Nrm.only [3, 4, 5, 6, 18, 19, 39, 299] rfl ?_
             refine Nrm.pick [1, 2, 3, 0, 4, 5, 6, 7, 8] rfl rfl ?_
             exact hj_3 _ _ ⟨rfl, rfl⟩
          ·replace hE_3 := if_ff g283 hE_3
           rcases Bool.eq_false_or_eq_true (!t275_2) with g293 | g293
           ·replace hE_3 := if_tt g293 hE_3
            refine Tri.reg (l := List.range 22) rfl ?_
            refine F.qn rfl rfl rfl rfl (r_move rfl) ?_
            refine F.qn rfl rfl rfl rfl (r_move rfl) ?_
            refine F.qn rfl rfl rfl rfl (r_neqB Try.underlying4 rfl rfl) ?_
            refine F.qn rfl rfl rfl rfl (r_move rfl) ?_
            refine F.qg rfl rfl rfl rfl rfl rfl g281 (r_move rfl) ?_
            refine F.qg rfl rfl rfl rfl rfl rfl g281 (r_move rfl) ?_
            iterate 3 refine F.sk rfl rfl rfl (wf rfl rfl rfl g283) ?_
            refine F.qg rfl rfl rfl rfl rfl rfl g281 (r_pickf rfl rfl g283) ?_
            refine F.qn rfl rfl rfl rfl (r_pickf rfl rfl g281) ?_
            refine F.qn rfl rfl rfl rfl (r_move rfl) ?_
            refine F.qg rfl rfl rfl rfl rfl rfl rfl (r_move rfl) ?_
            refine F.qg rfl rfl rfl rfl rfl rfl rfl (r_not rfl) ?_
            refine F.qn rfl rfl rfl rfl (r_pickf rfl rfl rfl) ?_
            refine F.qn rfl rfl rfl rfl (r_move rfl) ?_
            iterate 5 refine F.sk rfl rfl rfl (wf rfl rfl rfl g293) ?_
            refine F.qn rfl rfl rfl rfl (r_pick rfl rfl g293) ?_
            refine F.nil ?_
            cases hE_3
            refine Nrm.only [3, 4, 5, 6, 18, 19, 39, 299] rfl ?_
            refine Nrm.pick [1, 2, 3, 0, 4, 5, 6, 7, 8] rfl rfl ?_
            exact hj_3 _ _ ⟨rfl, rfl⟩
           ·replace hE_3 := if_ff g293 hE_3
            refine Tri.reg (l := List.range 22) rfl ?_
            refine F.qn rfl rfl rfl rfl (r_move rfl) ?_
            refine F.qn rfl rfl rfl rfl (r_move rfl) ?_
            refine F.qn rfl rfl rfl rfl (r_neqB Try.underlying4 rfl rfl) ?_
            refine F.qn rfl rfl rfl rfl (r_move rfl) ?_
            refine F.qg rfl rfl rfl rfl rfl rfl g281 (r_move rfl) ?_
            refine F.qg rfl rfl rfl rfl rfl rfl g281 (r_move rfl) ?_
            iterate 3 refine F.sk rfl rfl rfl (wf rfl rfl rfl g283) ?_
            refine F.qg rfl rfl rfl rfl rfl rfl g281 (r_pickf rfl rfl g283) ?_
            refine F.qn rfl rfl rfl rfl (r_pickf rfl rfl g281) ?_
            refine F.qn rfl rfl rfl rfl (r_move rfl) ?_
            refine F.qg rfl rfl rfl rfl rfl rfl rfl (r_move rfl) ?_
            refine F.qg rfl rfl rfl rfl rfl rfl rfl (r_not rfl) ?_
            refine F.qn rfl rfl rfl rfl (r_pickf rfl rfl rfl) ?_
            refine F.qn rfl rfl rfl rfl (r_move rfl) ?_
            refine F.qg rfl rfl rfl rfl rfl rfl g293 (r_move rfl) ?_
            refine F.qg rfl rfl rfl rfl rfl rfl g293 (r_len Try.underlying25 rfl hl_v275_1) ?_
            refine F.qg rfl rfl rfl rfl rfl rfl g293 (r_move rfl) ?_
            refine F.qg rfl rfl rfl rfl rfl rfl g293 (r_len Try.underlying25 rfl hl_v53_3) ?_
            refine F.qg rfl rfl rfl rfl rfl rfl g293 (r_neq rfl rfl) ?_
            refine F.qn rfl rfl rfl rfl (r_pickf rfl rfl g293) ?_
            refine F.nil ?_
            cases hE_3
            refine Nrm.only [3, 4, 5, 6, 18, 19, 39, 299] rfl ?_
            refine Nrm.pick [1, 2, 3, 0, 4, 5, 6, 7, 8] rfl rfl ?_
            exact hj_3 _ _ ⟨rfl, rfl⟩
     ·rcases Bool.eq_false_or_eq_true (!t248_2) with g253 | g253
      ·replace hE_2 := if_tt g253 hE_2
       refine Tri.reg (l := List.range 15) rfl ?_
       refine F.qn rfl rfl rfl rfl (r_move rfl) ?_
       refine F.qn rfl rfl rfl rfl (r_not rfl) ?_
       refine F.qn rfl rfl rfl rfl (r_move rfl) ?_
       iterate 4 refine F.sk rfl rfl rfl (wf rfl rfl rfl g253) ?_
       refine F.qn rfl rfl rfl rfl (r_pick rfl rfl g253) ?_
       refine F.qn rfl rfl rfl rfl (r_move rfl) ?_
       iterate 5 refine F.sk rfl rfl rfl (wf rfl rfl rfl rfl) ?_
       refine F.qn rfl rfl rfl rfl (r_pick rfl rfl rfl) ?_
       refine F.nil ?_
       cases hE_2
       refine Nrm.only [3, 4, 5, 6, 7, 10, 14, 18, 19, 265] rfl ?_
       refine Nrm.pick [2, 3, 4, 9, 10, 11, 12, 13] rfl rfl ?_
       exact hj_2 _ _ ⟨rfl, rfl⟩
      ·replace hE_2 := if_ff g253 hE_2
       obtain ⟨t256, h256, hE_2⟩ := bind_some hE_2
       rcases Bool.eq_false_or_eq_true (!t256) with g259 | g259
       ·replace hE_2 := if_tt g259 hE_2
        refine Tri.reg (l := List.range 15) rfl ?_
        refine F.qn rfl rfl rfl rfl (r_move rfl) ?_
        refine F.qn rfl rfl rfl rfl (r_not rfl) ?_
        refine F.qn rfl rfl rfl rfl (r_move rfl) ?_
        refine F.qg rfl rfl rfl rfl rfl rfl g253 (r_move rfl) ?_
        refine F.qg rfl rfl rfl rfl rfl rfl g253 (r_move rfl) ?_
        refine F.qc rfl rfl rfl (wg rfl rfl rfl g253) (q_callF (xs := _) rfl ok20 rfl rfl (fun w hw => laws_vInts.ok h256 w ((rd_sl (i := 0) rfl) w hw) ((rd_sl (i := 7) rfl) w hw))) ?_
        refine F.qg rfl rfl rfl rfl rfl rfl g253 (r_not rfl) ?_
        refine F.qn rfl rfl rfl rfl (r_pickf rfl rfl g253) ?_
        refine F.qn rfl rfl rfl rfl (r_move rfl) ?_
        iterate 5 refine F.sk rfl rfl rfl (wf rfl rfl rfl g259) ?_
        refine F.qn rfl rfl rfl rfl (r_pick rfl rfl g259) ?_
        refine F.nil ?_
        cases hE_2
        refine Nrm.only [3, 4, 5, 6, 7, 10, 14, 18, 19, 265] rfl ?_
        refine Nrm.pick [2, 3, 4, 9, 10, 11, 12, 13] rfl rfl ?_
        exact hj_2 _ _ ⟨rfl, rfl⟩
       ·replace hE_2 := if_ff g259 hE_2
        obtain ⟨t261, h261, hE_2⟩ := bind_some hE_2
        obtain ⟨t263, h263, hE_2⟩ := bind_some hE_2
        refine Tri.reg (l := List.range 15) rfl ?_
        refine F.qn rfl rfl rfl rfl (r_move rfl) ?_
        refine F.qn rfl rfl rfl rfl (r_not rfl) ?_
        refine F.qn rfl rfl rfl rfl (r_move rfl) ?_
        refine F.qg rfl rfl rfl rfl rfl rfl g253 (r_move rfl) ?_
        refine F.qg rfl rfl rfl rfl rfl rfl g253 (r_move rfl) ?_
        refine F.qc rfl rfl rfl (wg rfl rfl rfl g253) (q_callF (xs := _) rfl ok20 rfl rfl (fun w hw => laws_vInts.ok h256 w ((rd_sl (i := 0) rfl) w hw) ((rd_sl (i := 7) rfl) w hw))) ?_
        refine F.qg rfl rfl rfl rfl rfl rfl g253 (r_not rfl) ?_
        refine F.qn rfl rfl rfl rfl (r_pickf rfl rfl g253) ?_
        refine F.qn rfl rfl rfl rfl (r_move rfl) ?_
        refine F.qg rfl rfl rfl rfl rfl rfl g259 (r_move rfl) ?_
        refine F.qc rfl rfl rfl (wg rfl rfl rfl g259) (q_callF (xs := _) rfl ok21 rfl rfl (fun w hw => laws_vAdd.ok h261 w ((rd_sl (i := 8) rfl) w hw))) ?_
        refine F.qg rfl rfl rfl rfl rfl rfl g259 (r_move rfl) ?_
        refine F.qc rfl rfl rfl (wg rfl rfl rfl g259) (q_callF (xs := _) rfl ok21 rfl rfl (fun w hw => laws_vAdd.ok h263 w ((rd_sl (i := 7) rfl) w hw))) ?_
        refine F.qg rfl rfl rfl rfl rfl rfl g259 (r_neq rfl rfl) ?_
        refine F.qn rfl rfl rfl rfl (r_pickf rfl rfl g259) ?_
        refine F.nil ?_
        cases hE_2
        refine Nrm.only [3, 4, 5, 6, 7, 10, 14, 18, 19, 265] rfl ?_
        refine Nrm.pick [2, 3, 4, 9, 10, 11, 12, 13] rfl rfl ?_
        exact hj_2 _ _ ⟨rfl, rfl⟩
    ·replace h := if_ff g_3 h
     refine Tri.skip (Nrm.seq (Tri.seq (Tri.seq (Tri.reg (l := [0, 1]) rfl ?_))))
     refine F.qn rfl rfl rfl rfl (r_move rfl) ?_
     refine F.qn rfl rfl rfl rfl (r_not rfl) ?_
     refine F.nil (Nrm.seq (Tri.cond (b := !t61_4) rfl (fun g_12 => ?_) (fun g_12 => ?_)))
     ·replace h := if_tt g_12 h
      refine Tri.seq (Tri.reg (l := [0]) rfl ?_)
      refine F.qn rfl rfl rfl rfl (r_assign rfl) ?_
      refine F.nil (Nrm.seq (Tri.ret ?_))
      refine Rtn.then ?_
      cases h
      exact Rtn.body (.tmp rfl .nil) (fun w hw => ⟨rfl, hw.ext⟩)
     ·replace h := if_ff g_12 h
      refine Tri.skip (Nrm.seq (Tri.seq ?_))
      obtain ⟨⟨t270_1, t270_2⟩, h270, h⟩ := bind_some h
      refine Tri.reg (l := [0, 1, 2, 3, 4, 5, 6]) rfl ?_
      refine F.qn rfl rfl rfl rfl (r_loadA ta27 ti27 rfl rfl (fun w hw => (box_cells (i := 1) rfl w hw))) ?_
      refine F.qcn rfl rfl rfl rfl (q_callF (xs := _) rfl ok46 rfl rfl (fun w hw => impl_WinRound.ok h270 w ((rd_sl (i := 11) rfl) w hw) ((rd_sl (i := 12) rfl) w hw))) ?_
      refine F.qn rfl rfl rfl rfl (r_move rfl) ?_
      refine F.qn rfl rfl rfl rfl (r_extract rfl rfl) ?_
      refine F.qn rfl rfl rfl rfl (r_extract rfl rfl) ?_
      refine F.qn rfl rfl rfl rfl (r_assign rfl) ?_
      refine F.qn rfl rfl rfl rfl (r_assign rfl) ?_
      refine F.nil (Nrm.seq (Tri.seq ?_))
      obtain ⟨⟨t275_1, t275_2⟩, h275, h⟩ := bind_some h
      refine Tri.reg (l := [0, 1, 2, 3, 4, 5, 6]) rfl ?_
      refine F.qn rfl rfl rfl rfl (r_move rfl) ?_
      refine F.mn rfl rfl rfl rfl (m_callF (xs := _) rfl ok22 rfl rfl (fun w hw => impl_ColoursOf.ok h275 w )) ?_
      rintro _ _ ⟨_, ⟨v275_2, S275_2, rfl, hl_v275_2, rfl⟩, rfl⟩
      refine F.qn rfl rfl rfl rfl (r_move rfl) ?_
      refine F.qn rfl rfl rfl rfl (r_extract rfl rfl) ?_
      refine F.qn rfl rfl rfl rfl (r_extract rfl rfl) ?_
      refine F.qn rfl rfl rfl rfl (r_assign rfl) ?_
      refine F.qn rfl rfl rfl rfl (r_assign rfl) ?_
      refine F.nil (Nrm.seq (Tri.seq (Tri.seq ?_)))
      obtain ⟨y299r, hE_10, h⟩ := bind_some h
      refine Tri.cut (fun e' C' => e' = [(3, .pointer (some ⟨b3_1, 0, none⟩)), (4, .int .i64 t53_4), (5, v53_3), (6, .pointer (some ⟨b6_1, 0, none⟩)), (18, v103_1), (19, .bool t103_2), (39, v275_2), (299, .bool y299r)] ∧ C' = Sep w noM [R.box b6_1 27 [.int .i64 t61_1, v61_1, v61_2], R.box b3_1 27 [.int .i64 t53_1, v53_1, v53_2], R.sl S103_1 v103_1 (t103_1 : List (Int × Int)), R.sl S275_2 v275_2 (t275_1 : List (Int)), R.sl S53_1 v53_1 (t53_2 : List (Int × Int × Int)), R.sl S53_2 v53_2 (t53_3 : List (Int)), R.sl S53_3 v53_3 (t53_5 : List (Int)), R.sl S61_1 v61_1 (t61_2 : List (Int × Int × Int)), R.sl S61_2 v61_2 (t61_3 : List (Int))]) ?_ (fun hj_7 => ?_)
      ·rintro _ _ ⟨rfl, rfl⟩
       refine Nrm.seq (Tri.cond (b := y299r) rfl (fun g_13 => ?_) (fun g_13 => ?_))
       ·replace h := if_tt g_13 h
        refine Tri.seq (Tri.reg (l := [0]) rfl ?_)
        refine F.qn rfl rfl rfl rfl (r_assign rfl) ?_
        refine F.nil (Nrm.seq (Tri.ret ?_))
        refine Rtn.then ?_
        cases h
        exact Rtn.body (.tmp rfl .nil) (fun w hw => ⟨rfl, hw.ext⟩)
       ·replace h := if_ff g_13 h
        refine Tri.skip (Nrm.seq (Tri.seq (Tri.seq (Tri.reg (l := [0]) rfl ?_))))
        refine F.qn rfl rfl rfl rfl (r_assign rfl) ?_
        refine F.nil (Nrm.seq ?_)
        obtain ⟨s3, hE_11, h⟩ := bind_some h
        refine Tri.block ?_
        refine Tri.only [3, 4, 5, 6, 18, 19, 39, 41] rfl ?_
        refine Tri.pick [0, 1, 2, 3, 4, 5, 6, 7, 8] rfl rfl ?_
        refine Tri.rounds (fun n e' C' => ∃ (x41r' : Int), laws_FnLaid.l3 k t53_1 t53_2 t53_3 t53_4 t53_5 t61_3 t103_1 t103_2 t275_1 n x41r' = some s3 ∧ e' = [(3, .pointer (some ⟨b3_1, 0, none⟩)), (4, .int .i64 t53_4), (5, v53_3), (6, .pointer (some ⟨b6_1, 0, none⟩)), (18, v103_1), (19, .bool t103_2), (39, v275_2), (41, .int .i64 x41r')] ∧ C' = Sep w noM [R.box b6_1 27 [.int .i64 t61_1, v61_1, v61_2], R.box b3_1 27 [.int .i64 t53_1, v53_1, v53_2], R.sl S103_1 v103_1 (t103_1 : List (Int × Int)), R.sl S275_2 v275_2 (t275_1 : List (Int)), R.sl S53_1 v53_1 (t53_2 : List (Int × Int × Int)), R.sl S53_2 v53_2 (t53_3 : List (Int)), R.sl S53_3 v53_3 (t53_5 : List (Int)), R.sl S61_1 v61_1 (t61_2 : List (Int × Int × Int)), R.sl S61_2 v61_2 (t61_3 : List (Int))]) k ?_ ?_ ?_
        ·exact ⟨0, hE_11, rfl, rfl⟩
        ·rintro _ _ ⟨_, hE_11, _⟩
         rw [laws_FnLaid.l3.eq_1] at hE_11; cases hE_11
        ·rintro n_4 _ _ ⟨x41r, hE_11, rfl, rfl⟩ ih_4
         rw [laws_FnLaid.l3.eq_2] at hE_11
         refine Tri.seq (Tri.seq (Tri.reg (l := [0, 1, 2, 3]) rfl ?_))
         refine F.qn rfl rfl rfl rfl (r_move rfl) ?_
         refine F.qn rfl rfl rfl rfl (r_move rfl) ?_
         refine F.qn rfl rfl rfl rfl (r_len Try.underlying25 rfl hl_v53_3) ?_
         refine F.qn rfl rfl rfl rfl (r_lss rfl rfl) ?_
         refine F.nil (Nrm.seq (Tri.cond (b := decide (x41r < (t53_5.length : Int))) rfl (fun g_14 => ?_) (fun g_14 => ?_)))
         ·replace hE_11 := if_tt g_14 hE_11
          refine Tri.skip (Nrm.seq (Tri.seq (Tri.block ?_)))
          refine Tri.seq (Tri.seq ?_)
          obtain ⟨t310, h310, hE_11⟩ := bind_some hE_11
          obtain ⟨t312, h312, hE_11⟩ := bind_some hE_11
          obtain ⟨t316, h316, hE_11⟩ := bind_some hE_11
          obtain ⟨hs318, hE_11⟩ := ck hE_11
          refine Tri.drawA mixedT Sep.up [(0, true), (1, true), (2, true), (3, true), (4, true), (5, true), (6, true), (7, true), (8, true), (9, true), (10, true), (11, true), (12, true), (13, true), (14, true)] [] (by kernel_rfl) ?_
          refine S.qn rfl rfl rfl rfl (r_fieldAddr tf27_2 rfl) ?_
          refine S.qn rfl rfl rfl rfl (r_load ta25 rfl (fun w hw => cell_1 (box_cells (i := 0) rfl w hw) rfl)) ?_
          refine S.qn rfl rfl rfl rfl (r_move rfl) ?_
          refine S.qn rfl rfl rfl rfl (r_move rfl) ?_
          refine S.qn rfl rfl rfl rfl (r_indexAddrS Try.underlying25 ti3 rfl hl_v53_3 rfl (rdl_some h310).1 (rdl_some h310).2.1) ?_
          refine S.qn rfl rfl rfl rfl (r_load ta3 rfl (fun w hw => cell_0 (Rd.flat ((rd_sl (i := 6) rfl) w hw) (rdl_some h310).2.2) rfl)) ?_
          refine S.qn rfl rfl rfl rfl (r_indexAddrS Try.underlying25 ti3 rfl hl_v61_2 rfl (rdl_some h312).1 (rdl_some h312).2.1) ?_
          refine S.qn rfl rfl rfl rfl (r_load ta3 rfl (fun w hw => cell_0 (Rd.flat ((rd_sl (i := 8) rfl) w hw) (rdl_some h312).2.2) rfl)) ?_
          refine S.qn rfl rfl rfl rfl (r_move rfl) ?_
          refine S.qn rfl rfl rfl rfl (r_move rfl) ?_
          refine S.qn rfl rfl rfl rfl (r_indexAddrS Try.underlying25 ti3 rfl hl_v275_2 rfl (rdl_some h316).1 (rdl_some h316).2.1) ?_
          refine S.qn rfl rfl rfl rfl (r_load ta3 rfl (fun w hw => cell_0 (Rd.flat ((rd_sl (i := 3) rfl) w hw) (rdl_some h316).2.2) rfl)) ?_
          refine S.qn rfl rfl rfl rfl (r_shr rfl rfl hs318) ?_
          refine S.qn rfl rfl rfl rfl (r_and rfl rfl) ?_
          refine S.qn rfl rfl rfl rfl (r_neq rfl rfl) ?_
          refine S.nil (F.nil (Nrm.seq (Tri.cond (b := (band (shr t312 t316) 1) != 1) rfl (fun g_15 => ?_) (fun g_15 => ?_))))
          ·replace hE_11 := if_tt g_15 hE_11
           refine Tri.seq (Tri.reg (l := [0]) rfl ?_)
           refine F.qn rfl rfl rfl rfl (r_assign rfl) ?_
           refine F.nil (Nrm.seq (Tri.ret ?_))
           refine Rtn.then ?_
           refine Rtn.block ?_
           refine Rtn.then ?_
           refine Rtn.then ?_
           refine Rtn.block ?_
           refine Rtn.then ?_
           cases hE_11
           replace h := Lr_inr h
           cases h
           exact Rtn.body (.tmp rfl .nil) (fun w hw => ⟨rfl, hw.ext⟩)
          ·replace hE_11 := if_ff g_15 hE_11
           refine Tri.skip (Nrm.seq (Tri.seq (Tri.reg (l := [0, 1, 2]) rfl ?_)))
           refine F.qn rfl rfl rfl rfl (r_move rfl) ?_
           refine F.qn rfl rfl rfl rfl (r_add rfl rfl) ?_
           refine F.qn rfl rfl rfl rfl (r_assign rfl) ?_
           refine F.nil (Nrm.seq ?_)
           obtain ⟨s4, hE_12, hE_11⟩ := bind_some hE_11
           refine Tri.block ?_
           refine Tri.only [3, 4, 5, 6, 18, 19, 39, 41, 42] rfl ?_
           refine Tri.pick [0, 1, 2, 3, 4, 5, 6, 7, 8] rfl rfl ?_
           refine Tri.rounds (fun n e' C' => ∃ (x42r' : Int), laws_FnLaid.l4 k t53_1 t53_2 t53_3 t53_4 t53_5 t103_1 t103_2 t275_1 x41r n x42r' = some s4 ∧ e' = [(3, .pointer (some ⟨b3_1, 0, none⟩)), (4, .int .i64 t53_4), (5, v53_3), (6, .pointer (some ⟨b6_1, 0, none⟩)), (18, v103_1), (19, .bool t103_2), (39, v275_2), (41, .int .i64 x41r), (42, .int .i64 x42r')] ∧ C' = Sep w noM [R.box b6_1 27 [.int .i64 t61_1, v61_1, v61_2], R.box b3_1 27 [.int .i64 t53_1, v53_1, v53_2], R.sl S103_1 v103_1 (t103_1 : List (Int × Int)), R.sl S275_2 v275_2 (t275_1 : List (Int)), R.sl S53_1 v53_1 (t53_2 : List (Int × Int × Int)), R.sl S53_2 v53_2 (t53_3 : List (Int)), R.sl S53_3 v53_3 (t53_5 : List (Int)), R.sl S61_1 v61_1 (t61_2 : List (Int × Int × Int)), R.sl S61_2 v61_2 (t61_3 : List (Int))]) k ?_ ?_ ?_
           ·exact ⟨w64 (x41r + 1), hE_12, rfl, rfl⟩
           ·rintro _ _ ⟨_, hE_12, _⟩
            rw [laws_FnLaid.l4.eq_1] at hE_12; cases hE_12
           ·rintro n_5 _ _ ⟨x42r, hE_12, rfl, rfl⟩ ih_5
            rw [laws_FnLaid.l4.eq_2] at hE_12
            refine Tri.seq (Tri.seq ?_)
            obtain ⟨y329r, hE_13, hE_12⟩ := bind_some hE_12
            refine Tri.cut (fun e' C' => e' = [(3, .pointer (some ⟨b3_1, 0, none⟩)), (4, .int .i64 t53_4), (5, v53_3), (6, .pointer (some ⟨b6_1, 0, none⟩)), (18, v103_1), (19, .bool t103_2), (39, v275_2), (41, .int .i64 x41r), (42, .int .i64 x42r), (329, .bool y329r)] ∧ C' = Sep w noM [R.box b6_1 27 [.int .i64 t61_1, v61_1, v61_2], R.box b3_1 27 [.int .i64 t53_1, v53_1, v53_2], R.sl S103_1 v103_1 (t103_1 : List (Int × Int)), R.sl S275_2 v275_2 (t275_1 : List (Int)), R.sl S53_1 v53_1 (t53_2 : List (Int × Int × Int)), R.sl S53_2 v53_2 (t53_3 : List (Int)), R.sl S53_3 v53_3 (t53_5 : List (Int)), R.sl S61_1 v61_1 (t61_2 : List (Int × Int × Int)), R.sl S61_2 v61_2 (t61_3 : List (Int))]) ?_ (fun hj_8 => ?_)
            ·rintro _ _ ⟨rfl, rfl⟩
             refine Nrm.seq (Tri.cond (b := y329r) rfl (fun g_16 => ?_) (fun g_16 => ?_))
             ·replace hE_12 := if_tt g_16 hE_12
              refine Tri.skip (Nrm.seq (Tri.seq (Tri.block ?_)))
              refine Tri.seq ?_
              obtain ⟨t338, h338, hE_12⟩ := bind_some hE_12
              obtain ⟨t342, h342, hE_12⟩ := bind_some hE_12
              obtain ⟨⟨t344_1, t344_2⟩, h344, hE_12⟩ := bind_some hE_12
              refine Tri.drawA mixedT Sep.up [(0, true), (1, true), (2, true), (3, true), (4, true), (5, true), (6, true), (7, true), (8, true), (9, true), (10, true), (11, false), (12, true), (13, true), (14, true), (15, true), (16, true)] [] (by kernel_rfl) ?_
              refine S.qn rfl rfl rfl rfl (r_loadA ta27 ti27 rfl rfl (fun w hw => (box_cells (i := 1) rfl w hw))) ?_
              iterate 4 refine S.qn rfl rfl rfl rfl (r_move rfl) ?_
              refine S.qn rfl rfl rfl rfl (r_indexAddrS Try.underlying25 ti3 rfl hl_v275_2 rfl (rdl_some h338).1 (rdl_some h338).2.1) ?_
              refine S.qn rfl rfl rfl rfl (r_load ta3 rfl (fun w hw => cell_0 (Rd.flat ((rd_sl (i := 3) rfl) w hw) (rdl_some h338).2.2) rfl)) ?_
              refine S.qn rfl rfl rfl rfl (r_move rfl) ?_
              refine S.qn rfl rfl rfl rfl (r_move rfl) ?_
              refine S.qn rfl rfl rfl rfl (r_indexAddrS Try.underlying25 ti3 rfl hl_v275_2 rfl (rdl_some h342).1 (rdl_some h342).2.1) ?_
              refine S.qn rfl rfl rfl rfl (r_load ta3 rfl (fun w hw => cell_0 (Rd.flat ((rd_sl (i := 3) rfl) w hw) (rdl_some h342).2.2) rfl)) ?_
              refine S.m rfl rfl rfl (wanted_none rfl) (m_callF (xs := _) rfl ok42 rfl rfl (fun w hw => impl_SwapFilling.ok h344 w ((rd_sl (i := 4) rfl) w hw) ((rd_sl (i := 5) rfl) w hw) ((rd_sl (i := 6) rfl) w hw))) ?_
              rintro _ _ ⟨_, ⟨v344_4, S344_4, rfl, hl_v344_4, rfl⟩, rfl⟩
              refine S.qn rfl rfl rfl rfl (r_move rfl) ?_
              refine S.qn rfl rfl rfl rfl (r_extract rfl rfl) ?_
              refine S.qn rfl rfl rfl rfl (r_extract rfl rfl) ?_
              refine S.qn rfl rfl rfl rfl (r_assign rfl) ?_
              refine S.qn rfl rfl rfl rfl (r_assign rfl) ?_
              refine S.nil (F.nil (Nrm.seq (Tri.seq ?_)))
              obtain ⟨⟨t351_1, t351_2⟩, h351, hE_12⟩ := bind_some hE_12
              refine Tri.reg (l := [0, 1, 2, 3, 4, 5, 6, 7, 8]) rfl ?_
              refine F.qn rfl rfl rfl rfl (r_loadA ta27 ti27 rfl rfl (fun w hw => (box_cells (i := 2) rfl w hw))) ?_
              refine F.qn rfl rfl rfl rfl (r_move rfl) ?_
              refine F.qn rfl rfl rfl rfl (r_move rfl) ?_
              refine F.qcn rfl rfl rfl rfl (q_callF (xs := _) rfl ok23 rfl rfl (fun w hw => impl_FillingWins.ok h351 w ((rd_sl (i := 5) rfl) w hw) ((rd_sl (i := 6) rfl) w hw) ((rd_sl (i := 0) rfl) w hw))) ?_
              refine F.qn rfl rfl rfl rfl (r_move rfl) ?_
              refine F.qn rfl rfl rfl rfl (r_extract rfl rfl) ?_
              refine F.qn rfl rfl rfl rfl (r_extract rfl rfl) ?_
              refine F.qn rfl rfl rfl rfl (r_assign rfl) ?_
              refine F.qn rfl rfl rfl rfl (r_assign rfl) ?_
              refine F.nil (Nrm.seq (Tri.seq (Tri.reg (l := [0]) rfl ?_)))
              refine F.qn rfl rfl rfl rfl (r_assign rfl) ?_
              refine F.nil (Nrm.seq (Tri.seq (Tri.seq (Tri.reg (l := [0]) rfl ?_))))
              refine F.qn rfl rfl rfl rfl (r_assign rfl) ?_
              refine F.nil (Nrm.seq ?_)
              obtain ⟨x47r, hE_14, hE_12⟩ := bind_some hE_12
              refine Tri.block ?_
              refine Tri.only [3, 4, 5, 6, 18, 19, 39, 41, 42, 44, 45, 46, 47, 48] rfl ?_
              refine Tri.pick [1, 2, 3, 4, 5, 6, 7, 8, 9] rfl rfl ?_
              refine Tri.rounds (fun n e' C' => ∃ (x47r' : Bool) (x48r' : Int), laws_FnLaid.l5 k t103_1 t275_1 x41r x42r n x47r' x48r' = some x47r ∧ e' = [(3, .pointer (some ⟨b3_1, 0, none⟩)), (4, .int .i64 t53_4), (5, v53_3), (6, .pointer (some ⟨b6_1, 0, none⟩)), (18, v103_1), (19, .bool t103_2), (39, v275_2), (41, .int .i64 x41r), (42, .int .i64 x42r), (44, .bool t344_2), (45, .bool t351_1), (46, .bool t351_2), (47, .bool x47r'), (48, .int .i64 x48r')] ∧ C' = Sep w noM [R.box b6_1 27 [.int .i64 t61_1, v61_1, v61_2], R.box b3_1 27 [.int .i64 t53_1, v53_1, v53_2], R.sl S103_1 v103_1 (t103_1 : List (Int × Int)), R.sl S275_2 v275_2 (t275_1 : List (Int)), R.sl S53_1 v53_1 (t53_2 : List (Int × Int × Int)), R.sl S53_2 v53_2 (t53_3 : List (Int)), R.sl S53_3 v53_3 (t53_5 : List (Int)), R.sl S61_1 v61_1 (t61_2 : List (Int × Int × Int)), R.sl S61_2 v61_2 (t61_3 : List (Int))]) k ?_ ?_ ?_
              ·exact ⟨false, 0, hE_14, rfl, rfl⟩
              ·rintro _ _ ⟨_, _, hE_14, _⟩
               rw [laws_FnLaid.l5.eq_1] at hE_14; cases hE_14
              ·rintro n_6 _ _ ⟨x47r, x48r, hE_14, rfl, rfl⟩ ih_6
               rw [laws_FnLaid.l5.eq_2] at hE_14
               refine Tri.seq (Tri.seq (Tri.reg (l := [0, 1, 2, 3]) rfl ?_))
               refine F.qn rfl rfl rfl rfl (r_move rfl) ?_
               refine F.qn rfl rfl rfl rfl (r_move rfl) ?_
               refine F.qn rfl rfl rfl rfl (r_len Try.underlying56 rfl hl_v103_1) ?_
               refine F.qn rfl rfl rfl rfl (r_lss rfl rfl) ?_
               refine F.nil (Nrm.seq (Tri.cond (b := decide (x48r < (t103_1.length : Int))) rfl (fun g_17 => ?_) (fun g_17 => ?_)))
               ·replace hE_14 := if_tt g_17 hE_14
                refine Tri.skip (Nrm.seq (Tri.seq (Tri.block ?_)))
                obtain ⟨y47r, hE_15, hE_14⟩ := bind_some hE_14
                refine Tri.cut (fun e' C' => e' = [(3, .pointer (some ⟨b3_1, 0, none⟩)), (4, .int .i64 t53_4), (5, v53_3), (6, .pointer (some ⟨b6_1, 0, none⟩)), (18, v103_1), (19, .bool t103_2), (39, v275_2), (41, .int .i64 x41r), (42, .int .i64 x42r), (44, .bool t344_2), (45, .bool t351_1), (46, .bool t351_2), (47, .bool y47r), (48, .int .i64 x48r)] ∧ C' = Sep w noM [R.box b6_1 27 [.int .i64 t61_1, v61_1, v61_2], R.box b3_1 27 [.int .i64 t53_1, v53_1, v53_2], R.sl S103_1 v103_1 (t103_1 : List (Int × Int)), R.sl S275_2 v275_2 (t275_1 : List (Int)), R.sl S53_1 v53_1 (t53_2 : List (Int × Int × Int)), R.sl S53_2 v53_2 (t53_3 : List (Int)), R.sl S53_3 v53_3 (t53_5 : List (Int)), R.sl S61_1 v61_1 (t61_2 : List (Int × Int × Int)), R.sl S61_2 v61_2 (t61_3 : List (Int))]) ?_ (fun hj_9 => ?_)
                ·rintro _ _ ⟨rfl, rfl⟩
                 refine Nrm.block ?_
                 refine Nrm.seq (Tri.reg (l := [0, 1, 2]) rfl ?_)
                 refine F.qn rfl rfl rfl rfl (r_move rfl) ?_
                 refine F.qn rfl rfl rfl rfl (r_add rfl rfl) ?_
                 refine F.qn rfl rfl rfl rfl (r_assign rfl) ?_
                 refine F.nil (Nrm.round ?_)
                 refine Rnd.only [3, 4, 5, 6, 18, 19, 39, 41, 42, 44, 45, 46, 47, 48] rfl ?_
                 refine Rnd.pick [0, 1, 2, 3, 4, 5, 6, 7, 8] rfl rfl ?_
                 exact ih_6 _ _ ⟨y47r, w64 (x48r + 1), hE_14, rfl, rfl⟩
                ·rcases Bool.eq_false_or_eq_true (x47r) with g361 | g361
                 ·replace hE_15 := if_tt g361 hE_15
                  refine Tri.drawA mixedT Sep.up [(0, true), (1, true), (2, true), (3, true), (4, true), (5, true), (6, true), (7, true), (8, true), (9, true), (10, true), (11, true), (12, true), (13, true), (14, true), (15, true), (16, true), (17, true)] [] (by kernel_rfl) ?_
                  refine S.qn rfl rfl rfl rfl (r_move rfl) ?_
                  refine S.qn rfl rfl rfl rfl (r_move rfl) ?_
                  iterate 14 refine S.sk rfl rfl rfl (wf rfl rfl rfl g361) ?_
                  refine S.qn rfl rfl rfl rfl (r_pick rfl rfl g361) ?_
                  refine S.qn rfl rfl rfl rfl (r_assign rfl) ?_
                  refine S.nil (F.nil ?_)
                  cases hE_15
                  refine Nrm.only [3, 4, 5, 6, 18, 19, 39, 41, 42, 44, 45, 46, 47, 48] rfl ?_
                  refine Nrm.pick [0, 1, 2, 3, 4, 5, 6, 7, 8] rfl rfl ?_
                  exact hj_9 _ _ ⟨rfl, rfl⟩
                 ·replace hE_15 := if_ff g361 hE_15
                  obtain ⟨t364, h364, hE_15⟩ := bind_some hE_15
                  obtain ⟨t368, h368, hE_15⟩ := bind_some hE_15
                  obtain ⟨t372, h372, hE_15⟩ := bind_some hE_15
                  refine Tri.drawA mixedT Sep.up [(0, true), (1, true), (2, true), (3, true), (4, true), (5, true), (6, true), (7, true), (8, true), (9, true), (10, true), (11, true), (12, true), (13, true), (14, true), (15, true), (16, true), (17, true)] [] (by kernel_rfl) ?_
                  refine S.qn rfl rfl rfl rfl (r_move rfl) ?_
                  refine S.qn rfl rfl rfl rfl (r_move rfl) ?_
                  refine S.qg rfl rfl rfl rfl rfl rfl g361 (r_move rfl) ?_
                  refine S.qg rfl rfl rfl rfl rfl rfl g361 (r_move rfl) ?_
                  refine S.qg rfl rfl rfl rfl rfl rfl g361 (r_indexAddrS Try.underlying56 ti64 rfl hl_v103_1 rfl (rdl_some h364).1 (rdl_some h364).2.1) ?_
                  refine S.qg rfl rfl rfl rfl rfl rfl g361 (r_loadA ta64 ti64 rfl rfl (fun w hw => (Rd.flat ((rd_sl (i := 2) rfl) w hw) (rdl_some h364).2.2))) ?_
                  refine S.qg rfl rfl rfl rfl rfl rfl g361 (r_move rfl) ?_
                  refine S.qg rfl rfl rfl rfl rfl rfl g361 (r_move rfl) ?_
                  refine S.qg rfl rfl rfl rfl rfl rfl g361 (r_indexAddrS Try.underlying25 ti3 rfl hl_v275_2 rfl (rdl_some h368).1 (rdl_some h368).2.1) ?_
                  refine S.qg rfl rfl rfl rfl rfl rfl g361 (r_load ta3 rfl (fun w hw => cell_0 (Rd.flat ((rd_sl (i := 3) rfl) w hw) (rdl_some h368).2.2) rfl)) ?_
                  refine S.qg rfl rfl rfl rfl rfl rfl g361 (r_move rfl) ?_
                  refine S.qg rfl rfl rfl rfl rfl rfl g361 (r_move rfl) ?_
                  refine S.qg rfl rfl rfl rfl rfl rfl g361 (r_indexAddrS Try.underlying25 ti3 rfl hl_v275_2 rfl (rdl_some h372).1 (rdl_some h372).2.1) ?_
                  refine S.qg rfl rfl rfl rfl rfl rfl g361 (r_load ta3 rfl (fun w hw => cell_0 (Rd.flat ((rd_sl (i := 3) rfl) w hw) (rdl_some h372).2.2) rfl)) ?_
                  refine S.qg rfl rfl rfl rfl rfl rfl g361 (r_buildA (qs := [(0, [.int .i64 t368]), (1, [.int .i64 t372])]) (cs := [.int .i64 t368, .int .i64 t372]) Try.underlying64 ti3 ti64 rfl (.cons rfl rfl (Nat.le_of_ble_eq_true rfl) (.cons rfl rfl (Nat.le_of_ble_eq_true rfl) .nil)) rfl rfl) ?_
                  refine S.qg rfl rfl rfl rfl rfl rfl g361 (r_eqlA2 Try.underlying64 Try.underlying3 ti3 ta3 rfl rfl eg64) ?_
                  refine S.qn rfl rfl rfl rfl (r_pickf rfl rfl g361) ?_
                  refine S.qn rfl rfl rfl rfl (r_assign rfl) ?_
                  refine S.nil (F.nil ?_)
                  cases hE_15
                  refine Nrm.only [3, 4, 5, 6, 18, 19, 39, 41, 42, 44, 45, 46, 47, 48] rfl ?_
                  refine Nrm.pick [0, 1, 2, 3, 4, 5, 6, 7, 8] rfl rfl ?_
                  exact hj_9 _ _ ⟨rfl, rfl⟩
               ·replace hE_14 := if_ff g_17 hE_14
                refine Tri.exit ?_
                refine Exi.then ?_
                refine Exi.then ?_
                refine Exi.same ?_
                cases hE_14
                refine Nrm.seq (Tri.seq ?_)
                obtain ⟨y387r, hE_16, hE_12⟩ := bind_some hE_12
                refine Tri.cut (fun e' C' => e' = [(3, .pointer (some ⟨b3_1, 0, none⟩)), (4, .int .i64 t53_4), (5, v53_3), (6, .pointer (some ⟨b6_1, 0, none⟩)), (18, v103_1), (19, .bool t103_2), (39, v275_2), (41, .int .i64 x41r), (42, .int .i64 x42r), (387, .bool y387r)] ∧ C' = Sep w noM [R.box b6_1 27 [.int .i64 t61_1, v61_1, v61_2], R.box b3_1 27 [.int .i64 t53_1, v53_1, v53_2], R.sl S103_1 v103_1 (t103_1 : List (Int × Int)), R.sl S275_2 v275_2 (t275_1 : List (Int)), R.sl S53_1 v53_1 (t53_2 : List (Int × Int × Int)), R.sl S53_2 v53_2 (t53_3 : List (Int)), R.sl S53_3 v53_3 (t53_5 : List (Int)), R.sl S61_1 v61_1 (t61_2 : List (Int × Int × Int)), R.sl S61_2 v61_2 (t61_3 : List (Int))]) ?_ (fun hj_10 => ?_)
                ·rintro _ _ ⟨rfl, rfl⟩
                 refine Nrm.seq (Tri.cond (b := y387r) rfl (fun g_18 => ?_) (fun g_18 => ?_))
                 ·replace hE_12 := if_tt g_18 hE_12
                  refine Tri.seq (Tri.reg (l := [0]) rfl ?_)
                  refine F.qn rfl rfl rfl rfl (r_assign rfl) ?_
                  refine F.nil (Nrm.seq (Tri.ret ?_))
                  refine Rtn.block ?_
                  refine Rtn.then ?_
                  refine Rtn.then ?_
                  refine Rtn.block ?_
                  refine Rtn.block ?_
                  refine Rtn.then ?_
                  refine Rtn.then ?_
                  refine Rtn.block ?_
                  refine Rtn.then ?_
                  cases hE_12
                  replace hE_11 := Lr_inr hE_11
                  cases hE_11
                  replace h := Lr_inr h
                  cases h
                  exact Rtn.body (.tmp rfl .nil) (fun w hw => ⟨rfl, hw.ext⟩)
                 ·replace hE_12 := if_ff g_18 hE_12
                  refine Tri.skip (Nrm.block ?_)
                  refine Nrm.seq (Tri.reg (l := [0, 1, 2]) rfl ?_)
                  refine F.qn rfl rfl rfl rfl (r_move rfl) ?_
                  refine F.qn rfl rfl rfl rfl (r_add rfl rfl) ?_
                  refine F.qn rfl rfl rfl rfl (r_assign rfl) ?_
                  refine F.nil (Nrm.round ?_)
                  refine Rnd.only [3, 4, 5, 6, 18, 19, 39, 41, 42] rfl ?_
                  refine Rnd.pick [0, 1, 2, 3, 4, 5, 6, 7, 8] rfl rfl ?_
                  exact ih_5 _ _ ⟨w64 (x42r + 1), hE_12, rfl, rfl⟩
                ·rcases Bool.eq_false_or_eq_true (!t344_2) with g379 | g379
                 ·replace hE_16 := if_tt g379 hE_16
                  refine Tri.reg (l := [0, 1, 2, 3, 4, 5, 6, 7, 8, 9, 10]) rfl ?_
                  refine F.qn rfl rfl rfl rfl (r_move rfl) ?_
                  refine F.qn rfl rfl rfl rfl (r_not rfl) ?_
                  refine F.qn rfl rfl rfl rfl (r_move rfl) ?_
                  refine F.sk rfl rfl rfl (wf rfl rfl rfl g379) ?_
                  refine F.sk rfl rfl rfl (wf rfl rfl rfl g379) ?_
                  refine F.qn rfl rfl rfl rfl (r_pick rfl rfl g379) ?_
                  refine F.qn rfl rfl rfl rfl (r_move rfl) ?_
                  iterate 3 refine F.sk rfl rfl rfl (wf rfl rfl rfl rfl) ?_
                  refine F.qn rfl rfl rfl rfl (r_pick rfl rfl rfl) ?_
                  refine F.nil ?_
                  cases hE_16
                  refine Nrm.only [3, 4, 5, 6, 18, 19, 39, 41, 42, 387] rfl ?_
                  refine Nrm.pick [0, 1, 2, 3, 4, 5, 6, 7, 8] rfl rfl ?_
                  exact hj_10 _ _ ⟨rfl, rfl⟩
                 ·replace hE_16 := if_ff g379 hE_16
                  rcases Bool.eq_false_or_eq_true (!t351_2) with g383 | g383
                  ·replace hE_16 := if_tt g383 hE_16
                   refine Tri.reg (l := [0, 1, 2, 3, 4, 5, 6, 7, 8, 9, 10]) rfl ?_
                   refine F.qn rfl rfl rfl rfl (r_move rfl) ?_
                   refine F.qn rfl rfl rfl rfl (r_not rfl) ?_
                   refine F.qn rfl rfl rfl rfl (r_move rfl) ?_
                   refine F.qg rfl rfl rfl rfl rfl rfl g379 (r_move rfl) ?_
                   refine F.qg rfl rfl rfl rfl rfl rfl g379 (r_not rfl) ?_
                   refine F.qn rfl rfl rfl rfl (r_pickf rfl rfl g379) ?_
                   refine F.qn rfl rfl rfl rfl (r_move rfl) ?_
                   iterate 3 refine F.sk rfl rfl rfl (wf rfl rfl rfl g383) ?_
                   refine F.qn rfl rfl rfl rfl (r_pick rfl rfl g383) ?_
                   refine F.nil ?_
                   cases hE_16
                   refine Nrm.only [3, 4, 5, 6, 18, 19, 39, 41, 42, 387] rfl ?_
                   refine Nrm.pick [0, 1, 2, 3, 4, 5, 6, 7, 8] rfl rfl ?_
                   exact hj_10 _ _ ⟨rfl, rfl⟩
                  ·replace hE_16 := if_ff g383 hE_16
                   refine Tri.reg (l := [0, 1, 2, 3, 4, 5, 6, 7, 8, 9, 10]) rfl ?_
                   refine F.qn rfl rfl rfl rfl (r_move rfl) ?_
                   refine F.qn rfl rfl rfl rfl (r_not rfl) ?_
                   refine F.qn rfl rfl rfl rfl (r_move rfl) ?_
                   refine F.qg rfl rfl rfl rfl rfl rfl g379 (r_move rfl) ?_
                   refine F.qg rfl rfl rfl rfl rfl rfl g379 (r_not rfl) ?_
                   refine F.qn rfl rfl rfl rfl (r_pickf rfl rfl g379) ?_
                   refine F.qn rfl rfl rfl rfl (r_move rfl) ?_
                   refine F.qg rfl rfl rfl rfl rfl rfl g383 (r_move rfl) ?_
                   refine F.qg rfl rfl rfl rfl rfl rfl g383 (r_move rfl) ?_
                   refine F.qg rfl rfl rfl rfl rfl rfl g383 (r_neqB Try.underlying4 rfl rfl) ?_
                   refine F.qn rfl rfl rfl rfl (r_pickf rfl rfl g383) ?_
                   refine F.nil ?_
                   cases hE_16
                   refine Nrm.only [3, 4, 5, 6, 18, 19, 39, 41, 42, 387] rfl ?_
                   refine Nrm.pick [0, 1, 2, 3, 4, 5, 6, 7, 8] rfl rfl ?_
                   exact hj_10 _ _ ⟨rfl, rfl⟩
             ·replace hE_12 := if_ff g_16 hE_12
              refine Tri.exit ?_
              refine Exi.then ?_
              refine Exi.then ?_
              refine Exi.same ?_
              cases hE_12
              replace hE_11 := Lr_inl hE_11
              refine Nrm.block ?_
              refine Nrm.seq (Tri.reg (l := [0, 1, 2]) rfl ?_)
              refine F.qn rfl rfl rfl rfl (r_move rfl) ?_
              refine F.qn rfl rfl rfl rfl (r_add rfl rfl) ?_
              refine F.qn rfl rfl rfl rfl (r_assign rfl) ?_
              refine F.nil (Nrm.round ?_)
              refine Rnd.only [3, 4, 5, 6, 18, 19, 39, 41] rfl ?_
              refine Rnd.pick [0, 1, 2, 3, 4, 5, 6, 7, 8] rfl rfl ?_
              exact ih_4 _ _ ⟨w64 (x41r + 1), hE_11, rfl, rfl⟩
            ·rcases Bool.eq_false_or_eq_true (t103_2) with g324 | g324
             ·replace hE_13 := if_tt g324 hE_13
              refine Tri.reg (l := [0, 1, 2, 3, 4, 5, 6]) rfl ?_
              refine F.qn rfl rfl rfl rfl (r_move rfl) ?_
              refine F.qn rfl rfl rfl rfl (r_move rfl) ?_
              refine F.qg rfl rfl rfl rfl rfl rfl g324 (r_move rfl) ?_
              refine F.qg rfl rfl rfl rfl rfl rfl g324 (r_move rfl) ?_
              refine F.qg rfl rfl rfl rfl rfl rfl g324 (r_len Try.underlying25 rfl hl_v53_3) ?_
              refine F.qg rfl rfl rfl rfl rfl rfl g324 (r_lss rfl rfl) ?_
              refine F.qn rfl rfl rfl rfl (r_pick rfl rfl g324) ?_
              refine F.nil ?_
              cases hE_13
              refine Nrm.only [3, 4, 5, 6, 18, 19, 39, 41, 42, 329] rfl ?_
              refine Nrm.pick [0, 1, 2, 3, 4, 5, 6, 7, 8] rfl rfl ?_
              exact hj_8 _ _ ⟨rfl, rfl⟩
             ·replace hE_13 := if_ff g324 hE_13
              refine Tri.reg (l := [0, 1, 2, 3, 4, 5, 6]) rfl ?_
              refine F.qn rfl rfl rfl rfl (r_move rfl) ?_
              refine F.qn rfl rfl rfl rfl (r_move rfl) ?_
              iterate 4 refine F.sk rfl rfl rfl (wf rfl rfl rfl g324) ?_
              refine F.qn rfl rfl rfl rfl (r_pickf rfl rfl g324) ?_
              refine F.nil ?_
              cases hE_13
              refine Nrm.only [3, 4, 5, 6, 18, 19, 39, 41, 42, 329] rfl ?_
              refine Nrm.pick [0, 1, 2, 3, 4, 5, 6, 7, 8] rfl rfl ?_
              exact hj_8 _ _ ⟨rfl, rfl⟩
         ·replace hE_11 := if_ff g_14 hE_11
          refine Tri.exit ?_
          refine Exi.then ?_
          refine Exi.then ?_
          refine Exi.same ?_
          cases hE_11
          replace h := Lr_inl h
          refine Nrm.seq (Tri.seq (Tri.reg (l := [0]) rfl ?_))
          refine F.qn rfl rfl rfl rfl (r_assign rfl) ?_
          refine F.nil (Nrm.seq (Tri.ret ?_))
          cases h
          exact Rtn.body (.tmp rfl .nil) (fun w hw => ⟨rfl, hw.ext⟩)
      ·rcases Bool.eq_false_or_eq_true (t270_2 != t75_1) with g281 | g281
       ·replace hE_10 := if_tt g281 hE_10
        refine Tri.reg (l := List.range 22) rfl ?_
        refine F.qn rfl rfl rfl rfl (r_move rfl) ?_
        refine F.qn rfl rfl rfl rfl (r_move rfl) ?_
        refine F.qn rfl rfl rfl rfl (r_neqB Try.underlying4 rfl rfl) ?_
        refine F.qn rfl rfl rfl rfl (r_move rfl) ?_
        refine F.sk rfl rfl rfl (wf rfl rfl rfl g281) ?_
        refine F.sk rfl rfl rfl (wf rfl rfl rfl g281) ?_
        iterate 3 refine F.sk rfl rfl rfl (wanted_undef rfl rfl rfl) ?_
        refine F.sk rfl rfl rfl (wf rfl rfl rfl g281) ?_
        refine F.qn rfl rfl rfl rfl (r_pick rfl rfl g281) ?_
        refine F.qn rfl rfl rfl rfl (r_move rfl) ?_
        refine F.sk rfl rfl rfl (wf rfl rfl rfl rfl) ?_
        refine F.sk rfl rfl rfl (wf rfl rfl rfl rfl) ?_
        refine F.qn rfl rfl rfl rfl (r_pick rfl rfl rfl) ?_
        refine F.qn rfl rfl rfl rfl (r_move rfl) ?_
        iterate 5 refine F.sk rfl rfl rfl (wf rfl rfl rfl rfl) ?_
        refine F.qn rfl rfl rfl rfl (r_pick rfl rfl rfl) ?_
        refine F.nil ?_
        cases hE_10
        refine Nrm.only [3, 4, 5, 6, 18, 19, 39, 299] rfl ?_
        refine Nrm.pick [2, 3, 4, 0, 9, 10, 11, 12, 13] rfl rfl ?_
        exact hj_7 _ _ ⟨rfl, rfl⟩
       ·replace hE_10 := if_ff g281 hE_10
        rcases Bool.eq_false_or_eq_true (t75_1) with g283 | g283
        ·replace hE_10 := if_tt g283 hE_10
         rcases Bool.eq_false_or_eq_true (t270_1 != t89_1) with g289 | g289
         ·replace hE_10 := if_tt g289 hE_10
          refine Tri.reg (l := List.range 22) rfl ?_
          refine F.qn rfl rfl rfl rfl (r_move rfl) ?_
          refine F.qn rfl rfl rfl rfl (r_move rfl) ?_
          refine F.qn rfl rfl rfl rfl (r_neqB Try.underlying4 rfl rfl) ?_
          refine F.qn rfl rfl rfl rfl (r_move rfl) ?_
          refine F.qg rfl rfl rfl rfl rfl rfl g281 (r_move rfl) ?_
          refine F.qg rfl rfl rfl rfl rfl rfl g281 (r_move rfl) ?_
          refine F.qg rfl rfl rfl rfl rfl rfl g283 (r_move rfl) ?_
          refine F.qg rfl rfl rfl rfl rfl rfl g283 (r_move rfl) ?_
          refine F.qg rfl rfl rfl rfl rfl rfl g283 (r_neq rfl rfl) ?_
          refine F.qg rfl rfl rfl rfl rfl rfl g281 (r_pick rfl rfl g283) ?_
          refine F.qn rfl rfl rfl rfl (r_pickf rfl rfl g281) ?_
          refine F.qn rfl rfl rfl rfl (r_move rfl) ?_
          refine F.sk rfl rfl rfl (wf rfl rfl rfl g289) ?_
          refine F.sk rfl rfl rfl (wf rfl rfl rfl g289) ?_
          refine F.qn rfl rfl rfl rfl (r_pick rfl rfl g289) ?_
          refine F.qn rfl rfl rfl rfl (r_move rfl) ?_
          iterate 5 refine F.sk rfl rfl rfl (wf rfl rfl rfl rfl) ?_
          refine F.qn rfl rfl rfl rfl (r_pick rfl rfl rfl) ?_
          refine F.nil ?_
          cases hE_10
          refine Nrm.only [3, 4, 5, 6, 18, 19, 39, 299] rfl ?_
          refine Nrm.pick [2, 3, 4, 0, 9, 10, 11, 12, 13] rfl rfl ?_
          exact hj_7 _ _ ⟨rfl, rfl⟩
         ·replace hE_10 := if_ff g289 hE_10
          rcases Bool.eq_false_or_eq_true (!t275_2) with g293 | g293
          ·replace hE_10 := if_tt g293 hE_10
           refine Tri.reg (l := List.range 22) rfl ?_
           refine F.qn rfl rfl rfl rfl (r_move rfl) ?_
           refine F.qn rfl rfl rfl rfl (r_move rfl) ?_
           refine F.qn rfl rfl rfl rfl (r_neqB Try.underlying4 rfl rfl) ?_
           refine F.qn rfl rfl rfl rfl (r_move rfl) ?_
           refine F.qg rfl rfl rfl rfl rfl rfl g281 (r_move rfl) ?_
           refine F.qg rfl rfl rfl rfl rfl rfl g281 (r_move rfl) ?_
           refine F.qg rfl rfl rfl rfl rfl rfl g283 (r_move rfl) ?_
           refine F.qg rfl rfl rfl rfl rfl rfl g283 (r_move rfl) ?_
           refine F.qg rfl rfl rfl rfl rfl rfl g283 (r_neq rfl rfl) ?_
           refine F.qg rfl rfl rfl rfl rfl rfl g281 (r_pick rfl rfl g283) ?_
           refine F.qn rfl rfl rfl rfl (r_pickf rfl rfl g281) ?_
           refine F.qn rfl rfl rfl rfl (r_move rfl) ?_
           refine F.qg rfl rfl rfl rfl rfl rfl g289 (r_move rfl) ?_
           refine F.qg rfl rfl rfl rfl rfl rfl g289 (r_not rfl) ?_
           refine F.qn rfl rfl rfl rfl (r_pickf rfl rfl g289) ?_
           refine F.qn rfl rfl rfl rfl (r_move rfl) ?_
           iterate 5 refine F.sk rfl rfl rfl (wf rfl rfl rfl g293) ?_
           refine F.qn rfl rfl rfl rfl (r_pick rfl rfl g293) ?_
           refine F.nil ?_
           cases hE_10
           refine Nrm.only [3, 4, 5, 6, 18, 19, 39, 299] rfl ?_
           refine Nrm.pick [2, 3, 4, 0, 9, 10, 11, 12, 13] rfl rfl ?_
           exact hj_7 _ _ ⟨rfl, rfl⟩
          ·replace hE_10 := if_ff g293 hE_10
           refine Tri.reg (l := List.range 22) rfl ?_
           refine F.qn rfl rfl rfl rfl (r_move rfl) ?_
           refine F.qn rfl rfl rfl rfl (r_move rfl) ?_
           refine F.qn rfl rfl rfl rfl (r_neqB Try.underlying4 rfl rfl) ?_
           refine F.qn rfl rfl rfl rfl (r_move rfl) ?_
           refine F.qg rfl rfl rfl rfl rfl rfl g281 (r_move rfl) ?_
           refine F.qg rfl rfl rfl rfl rfl rfl g281 (r_move rfl) ?_
           refine F.qg rfl rfl rfl rfl rfl rfl g283 (r_move rfl) ?_
           refine F.qg rfl rfl rfl rfl rfl rfl g283 (r_move rfl) ?_
           refine F.qg rfl rfl rfl rfl rfl rfl g283 (r_neq rfl rfl) ?_
           refine F.qg rfl rfl rfl rfl rfl rfl g281 (r_pick rfl rfl g283) ?_
           refine F.qn rfl rfl rfl rfl (r_pickf rfl rfl g281) ?_
           refine F.qn rfl rfl rfl rfl (r_move rfl) ?_
           refine F.qg rfl rfl rfl rfl rfl rfl g289 (r_move rfl) ?_
           refine F.qg rfl rfl rfl rfl rfl rfl g289 (r_not rfl) ?_
           refine F.qn rfl rfl rfl rfl (r_pickf rfl rfl g289) ?_
           refine F.qn rfl rfl rfl rfl (r_move rfl) ?_
           refine F.qg rfl rfl rfl rfl rfl rfl g293 (r_move rfl) ?_
           refine F.qg rfl rfl rfl rfl rfl rfl g293 (r_len Try.underlying25 rfl hl_v275_2) ?_
           refine F.qg rfl rfl rfl rfl rfl rfl g293 (r_move rfl) ?_
           refine F.qg rfl rfl rfl rfl rfl rfl g293 (r_len Try.underlying25 rfl hl_v53_3) ?_
           refine F.qg rfl rfl rfl rfl rfl rfl g293 (r_neq rfl rfl) ?_
           refine F.qn rfl rfl rfl rfl (r_pickf rfl rfl g293) ?_
           refine F.nil ?_
           cases hE_10
           refine Nrm.only [3, 4, 5, 6, 18, 19, 39, 299] rfl ?_
           refine Nrm.pick [2, 3, 4, 0, 9, 10, 11, 12, 13] rfl rfl ?_
           exact hj_7 _ _ ⟨rfl, rfl⟩
        ·replace hE_10 := if_ff g283 hE_10
         rcases Bool.eq_false_or_eq_true (!t275_2) with g293 | g293
         ·replace hE_10 := if_tt g293 hE_10
          refine Tri.reg (l := List.range 22) rfl ?_
          refine F.qn rfl rfl rfl rfl (r_move rfl) ?_
          refine F.qn rfl rfl rfl rfl (r_move rfl) ?_
          refine F.qn rfl rfl rfl rfl (r_neqB Try.underlying4 rfl rfl) ?_
          refine F.qn rfl rfl rfl rfl (r_move rfl) ?_
          refine F.qg rfl rfl rfl rfl rfl rfl g281 (r_move rfl) ?_
          refine F.qg rfl rfl rfl rfl rfl rfl g281 (r_move rfl) ?_
          iterate 3 refine F.sk rfl rfl rfl (wf rfl rfl rfl g283) ?_
          refine F.qg rfl rfl rfl rfl rfl rfl g281 (r_pickf rfl rfl g283) ?_
          refine F.qn rfl rfl rfl rfl (r_pickf rfl rfl g281) ?_
          refine F.qn rfl rfl rfl rfl (r_move rfl) ?_
          refine F.qg rfl rfl rfl rfl rfl rfl rfl (r_move rfl) ?_
          refine F.qg rfl rfl rfl rfl rfl rfl rfl (r_not rfl) ?_
          refine F.qn rfl rfl rfl rfl (r_pickf rfl rfl rfl) ?_
          refine F.qn rfl rfl rfl rfl (r_move rfl) ?_
          iterate 5 refine F.sk rfl rfl rfl (wf rfl rfl rfl g293) ?_
          refine F.qn rfl rfl rfl rfl (r_pick rfl rfl g293) ?_
          refine F.nil ?_
          cases hE_10
          refine Nrm.only [3, 4, 5, 6, 18, 19, 39, 299] rfl ?_
          refine Nrm.pick [2, 3, 4, 0, 9, 10, 11, 12, 13] rfl rfl ?_
          exact hj_7 _ _ ⟨rfl, rfl⟩
         ·replace hE_10 := if_ff g293 hE_10
          refine Tri.reg (l := List.range 22) rfl ?_
          refine F.qn rfl rfl rfl rfl (r_move rfl) ?_
          refine F.qn rfl rfl rfl rfl (r_move rfl) ?_
          refine F.qn rfl rfl rfl rfl (r_neqB Try.underlying4 rfl rfl) ?_
          refine F.qn rfl rfl rfl rfl (r_move rfl) ?_
          refine F.qg rfl rfl rfl rfl rfl rfl g281 (r_move rfl) ?_
          refine F.qg rfl rfl rfl rfl rfl rfl g281 (r_move rfl) ?_
          iterate 3 refine F.sk rfl rfl rfl (wf rfl rfl rfl g283) ?_
          refine F.qg rfl rfl rfl rfl rfl rfl g281 (r_pickf rfl rfl g283) ?_
          refine F.qn rfl rfl rfl rfl (r_pickf rfl rfl g281) ?_
          refine F.qn rfl rfl rfl rfl (r_move rfl) ?_
          refine F.qg rfl rfl rfl rfl rfl rfl rfl (r_move rfl) ?_
          refine F.qg rfl rfl rfl rfl rfl rfl rfl (r_not rfl) ?_
          refine F.qn rfl rfl rfl rfl (r_pickf rfl rfl rfl) ?_
          refine F.qn rfl rfl rfl rfl (r_move rfl) ?_
          refine F.qg rfl rfl rfl rfl rfl rfl g293 (r_move rfl) ?_
          refine F.qg rfl rfl rfl rfl rfl rfl g293 (r_len Try.underlying25 rfl hl_v275_2) ?_
          refine F.qg rfl rfl rfl rfl rfl rfl g293 (r_move rfl) ?_
          refine F.qg rfl rfl rfl rfl rfl rfl g293 (r_len Try.underlying25 rfl hl_v53_3) ?_
          refine F.qg rfl rfl rfl rfl rfl rfl g293 (r_neq rfl rfl) ?_
          refine F.qn rfl rfl rfl rfl (r_pickf rfl rfl g293) ?_
          refine F.nil ?_
          cases hE_10
          refine Nrm.only [3, 4, 5, 6, 18, 19, 39, 299] rfl ?_
          refine Nrm.pick [2, 3, 4, 0, 9, 10, 11, 12, 13] rfl rfl ?_
          exact hj_7 _ _ ⟨rfl, rfl⟩
  ·rcases Bool.eq_false_or_eq_true (t61_4 != t68_4) with g157 | g157
   ·replace hE_1 := if_tt g157 hE_1
    refine Tri.reg (l := List.range 87) rfl ?_
    refine F.qn rfl rfl rfl rfl (r_move rfl) ?_
    refine F.qn rfl rfl rfl rfl (r_move rfl) ?_
    refine F.qn rfl rfl rfl rfl (r_neqB Try.underlying4 rfl rfl) ?_
    refine F.qn rfl rfl rfl rfl (r_move rfl) ?_
    iterate 4 refine F.sk rfl rfl rfl (wf rfl rfl rfl g157) ?_
    refine F.qn rfl rfl rfl rfl (r_pick rfl rfl g157) ?_
    refine F.qn rfl rfl rfl rfl (r_move rfl) ?_
    iterate 3 refine F.sk rfl rfl rfl (wf rfl rfl rfl rfl) ?_
    refine F.qn rfl rfl rfl rfl (r_pick rfl rfl rfl) ?_
    refine F.qn rfl rfl rfl rfl (r_move rfl) ?_
    iterate 3 refine F.sk rfl rfl rfl (wf rfl rfl rfl rfl) ?_
    refine F.qn rfl rfl rfl rfl (r_pick rfl rfl rfl) ?_
    refine F.qn rfl rfl rfl rfl (r_move rfl) ?_
    iterate 3 refine F.sk rfl rfl rfl (wf rfl rfl rfl rfl) ?_
    refine F.qn rfl rfl rfl rfl (r_pick rfl rfl rfl) ?_
    refine F.qn rfl rfl rfl rfl (r_move rfl) ?_
    iterate 3 refine F.sk rfl rfl rfl (wf rfl rfl rfl rfl) ?_
    refine F.qn rfl rfl rfl rfl (r_pick rfl rfl rfl) ?_
    refine F.qn rfl rfl rfl rfl (r_move rfl) ?_
    iterate 3 refine F.sk rfl rfl rfl (wf rfl rfl rfl rfl) ?_
    refine F.qn rfl rfl rfl rfl (r_pick rfl rfl rfl) ?_
    refine F.qn rfl rfl rfl rfl (r_move rfl) ?_
    iterate 4 refine F.sk rfl rfl rfl (wf rfl rfl rfl rfl) ?_
    refine F.qn rfl rfl rfl rfl (r_pick rfl rfl rfl) ?_
    refine F.qn rfl rfl rfl rfl (r_move rfl) ?_
    iterate 3 refine F.sk rfl rfl rfl (wf rfl rfl rfl rfl) ?_
    refine F.qn rfl rfl rfl rfl (r_pick rfl rfl rfl) ?_
    refine F.qn rfl rfl rfl rfl (r_move rfl) ?_
    iterate 3 refine F.sk rfl rfl rfl (wf rfl rfl rfl rfl) ?_
    refine F.qn rfl rfl rfl rfl (r_pick rfl rfl rfl) ?_
    refine F.qn rfl rfl rfl rfl (r_move rfl) ?_
    iterate 3 refine F.sk rfl rfl rfl (wf rfl rfl rfl rfl) ?_
    refine F.qn rfl rfl rfl rfl (r_pick rfl rfl rfl) ?_
    refine F.qn rfl rfl rfl rfl (r_move rfl) ?_
    iterate 4 refine F.sk rfl rfl rfl (wf rfl rfl rfl rfl) ?_
    refine F.qn rfl rfl rfl rfl (r_pick rfl rfl rfl) ?_
    refine F.qn rfl rfl rfl rfl (r_move rfl) ?_
    iterate 3 refine F.sk rfl rfl rfl (wf rfl rfl rfl rfl) ?_
    refine F.sk rfl rfl rfl (wanted_undef rfl rfl rfl) ?_
    refine F.sk rfl rfl rfl (wf rfl rfl rfl rfl) ?_
    refine F.sk rfl rfl rfl (wf rfl rfl rfl rfl) ?_
    refine F.qn rfl rfl rfl rfl (r_pick rfl rfl rfl) ?_
    refine F.qn rfl rfl rfl rfl (r_move rfl) ?_
    iterate 3 refine F.sk rfl rfl rfl (wf rfl rfl rfl rfl) ?_
    refine F.qn rfl rfl rfl rfl (r_pick rfl rfl rfl) ?_
    refine F.qn rfl rfl rfl rfl (r_move rfl) ?_
    iterate 3 refine F.sk rfl rfl rfl (wf rfl rfl rfl rfl) ?_
    refine F.sk rfl rfl rfl (wanted_undef rfl rfl rfl) ?_
    refine F.sk rfl rfl rfl (wf rfl rfl rfl rfl) ?_
    refine F.sk rfl rfl rfl (wf rfl rfl rfl rfl) ?_
    refine F.qn rfl rfl rfl rfl (r_pick rfl rfl rfl) ?_
    refine F.qn rfl rfl rfl rfl (r_move rfl) ?_
    iterate 3 refine F.sk rfl rfl rfl (wf rfl rfl rfl rfl) ?_
    refine F.qn rfl rfl rfl rfl (r_pick rfl rfl rfl) ?_
    refine F.nil ?_
    cases hE_1
    refine Nrm.only [3, 4, 5, 6, 7, 10, 14, 18, 19, 26, 27, 28, 29, 30, 31, 32, 240] rfl ?_
    refine Nrm.pick [2, 12, 15, 8, 3, 4, 5, 1, 16, 17, 18, 13, 14] rfl rfl ?_
    exact hj_1 _ _ ⟨rfl, rfl⟩
   ·replace hE_1 := if_ff g157 hE_1
    obtain ⟨t160, h160, hE_1⟩ := bind_some hE_1
    rcases Bool.eq_false_or_eq_true (!t160) with g163 | g163
    ·replace hE_1 := if_tt g163 hE_1
     refine Tri.reg (l := List.range 87) rfl ?_
     refine F.qn rfl rfl rfl rfl (r_move rfl) ?_
     refine F.qn rfl rfl rfl rfl (r_move rfl) ?_
     refine F.qn rfl rfl rfl rfl (r_neqB Try.underlying4 rfl rfl) ?_
     refine F.qn rfl rfl rfl rfl (r_move rfl) ?_
     refine F.qg rfl rfl rfl rfl rfl rfl g157 (r_loadA ta27 ti27 rfl rfl (fun w hw => (box_cells (i := 12) rfl w hw))) ?_
     refine F.qg rfl rfl rfl rfl rfl rfl g157 (r_loadA ta27 ti27 rfl rfl (fun w hw => (box_cells (i := 9) rfl w hw))) ?_
     refine F.qc rfl rfl rfl (wg rfl rfl rfl g157) (q_callF (xs := _) rfl ok44 rfl rfl (fun w hw => laws_vMaze.ok h160 w ((rd_sl (i := 13) rfl) w hw) ((rd_sl (i := 14) rfl) w hw) ((rd_sl (i := 10) rfl) w hw) ((rd_sl (i := 11) rfl) w hw))) ?_
     refine F.qg rfl rfl rfl rfl rfl rfl g157 (r_not rfl) ?_
     refine F.qn rfl rfl rfl rfl (r_pickf rfl rfl g157) ?_
     refine F.qn rfl rfl rfl rfl (r_move rfl) ?_
     iterate 3 refine F.sk rfl rfl rfl (wf rfl rfl rfl g163) ?_
     refine F.qn rfl rfl rfl rfl (r_pick rfl rfl g163) ?_
     refine F.qn rfl rfl rfl rfl (r_move rfl) ?_
     iterate 3 refine F.sk rfl rfl rfl (wf rfl rfl rfl rfl) ?_
     refine F.qn rfl rfl rfl rfl (r_pick rfl rfl rfl) ?_
     refine F.qn rfl rfl rfl rfl (r_move rfl) ?_
     iterate 3 refine F.sk rfl rfl rfl (wf rfl rfl rfl rfl) ?_
     refine F.qn rfl rfl rfl rfl (r_pick rfl rfl rfl) ?_
     refine F.qn rfl rfl rfl rfl (r_move rfl) ?_
     iterate 3 refine F.sk rfl rfl rfl (wf rfl rfl rfl rfl) ?_
     refine F.qn rfl rfl rfl rfl (r_pick rfl rfl rfl) ?_
     refine F.qn rfl rfl rfl rfl (r_move rfl) ?_
     iterate 3 refine F.sk rfl rfl rfl (wf rfl rfl rfl rfl) ?_
     refine F.qn rfl rfl rfl rfl (r_pick rfl rfl rfl) ?_
     refine F.qn rfl rfl rfl rfl (r_move rfl) ?_
     iterate 4 refine F.sk rfl rfl rfl (wf rfl rfl rfl rfl) ?_
     refine F.qn rfl rfl rfl rfl (r_pick rfl rfl rfl) ?_
     refine F.qn rfl rfl rfl rfl (r_move rfl) ?_
     iterate 3 refine F.sk rfl rfl rfl (wf rfl rfl rfl rfl) ?_
     refine F.qn rfl rfl rfl rfl (r_pick rfl rfl rfl) ?_
     refine F.qn rfl rfl rfl rfl (r_move rfl) ?_
     iterate 3 refine F.sk rfl rfl rfl (wf rfl rfl rfl rfl) ?_
     refine F.qn rfl rfl rfl rfl (r_pick rfl rfl rfl) ?_
     refine F.qn rfl rfl rfl rfl (r_move rfl) ?_
     iterate 3 refine F.sk rfl rfl rfl (wf rfl rfl rfl rfl) ?_
     refine F.qn rfl rfl rfl rfl (r_pick rfl rfl rfl) ?_
     refine F.qn rfl rfl rfl rfl (r_move rfl) ?_
     iterate 4 refine F.sk rfl rfl rfl (wf rfl rfl rfl rfl) ?_
     refine F.qn rfl rfl rfl rfl (r_pick rfl rfl rfl) ?_
     refine F.qn rfl rfl rfl rfl (r_move rfl) ?_
     iterate 3 refine F.sk rfl rfl rfl (wf rfl rfl rfl rfl) ?_
     refine F.sk rfl rfl rfl (wanted_undef rfl rfl rfl) ?_
     refine F.sk rfl rfl rfl (wf rfl rfl rfl rfl) ?_
     refine F.sk rfl rfl rfl (wf rfl rfl rfl rfl) ?_
     refine F.qn rfl rfl rfl rfl (r_pick rfl rfl rfl) ?_
     refine F.qn rfl rfl rfl rfl (r_move rfl) ?_
     iterate 3 refine F.sk rfl rfl rfl (wf rfl rfl rfl rfl) ?_
     refine F.qn rfl rfl rfl rfl (r_pick rfl rfl rfl) ?_
     refine F.qn rfl rfl rfl rfl (r_move rfl) ?_
     iterate 3 refine F.sk rfl rfl rfl (wf rfl rfl rfl rfl) ?_
     refine F.sk rfl rfl rfl (wanted_undef rfl rfl rfl) ?_
     refine F.sk rfl rfl rfl (wf rfl rfl rfl rfl) ?_
     refine F.sk rfl rfl rfl (wf rfl rfl rfl rfl) ?_
     refine F.qn rfl rfl rfl rfl (r_pick rfl rfl rfl) ?_
     refine F.qn rfl rfl rfl rfl (r_move rfl) ?_
     iterate 3 refine F.sk rfl rfl rfl (wf rfl rfl rfl rfl) ?_
     refine F.qn rfl rfl rfl rfl (r_pick rfl rfl rfl) ?_
     refine F.nil ?_
     cases hE_1
     refine Nrm.only [3, 4, 5, 6, 7, 10, 14, 18, 19, 26, 27, 28, 29, 30, 31, 32, 240] rfl ?_
     refine Nrm.pick [2, 12, 15, 8, 3, 4, 5, 1, 16, 17, 18, 13, 14] rfl rfl ?_
     exact hj_1 _ _ ⟨rfl, rfl⟩
    ·replace hE_1 := if_ff g163 hE_1
     rcases Bool.eq_false_or_eq_true (t75_1 != t82_1) with g168 | g168
     ·replace hE_1 := if_tt g168 hE_1
      refine Tri.reg (l := List.range 87) rfl ?_
      refine F.qn rfl rfl rfl rfl (r_move rfl) ?_
      refine F.qn rfl rfl rfl rfl (r_move rfl) ?_
      refine F.qn rfl rfl rfl rfl (r_neqB Try.underlying4 rfl rfl) ?_
      refine F.qn rfl rfl rfl rfl (r_move rfl) ?_
      refine F.qg rfl rfl rfl rfl rfl rfl g157 (r_loadA ta27 ti27 rfl rfl (fun w hw => (box_cells (i := 12) rfl w hw))) ?_
      refine F.qg rfl rfl rfl rfl rfl rfl g157 (r_loadA ta27 ti27 rfl rfl (fun w hw => (box_cells (i := 9) rfl w hw))) ?_
      refine F.qc rfl rfl rfl (wg rfl rfl rfl g157) (q_callF (xs := _) rfl ok44 rfl rfl (fun w hw => laws_vMaze.ok h160 w ((rd_sl (i := 13) rfl) w hw) ((rd_sl (i := 14) rfl) w hw) ((rd_sl (i := 10) rfl) w hw) ((rd_sl (i := 11) rfl) w hw))) ?_
      refine F.qg rfl rfl rfl rfl rfl rfl g157 (r_not rfl) ?_
      refine F.qn rfl rfl rfl rfl (r_pickf rfl rfl g157) ?_
      refine F.qn rfl rfl rfl rfl (r_move rfl) ?_
      refine F.qg rfl rfl rfl rfl rfl rfl g163 (r_move rfl) ?_
      refine F.qg rfl rfl rfl rfl rfl rfl g163 (r_move rfl) ?_
      refine F.qg rfl rfl rfl rfl rfl rfl g163 (r_neqB Try.underlying4 rfl rfl) ?_
      refine F.qn rfl rfl rfl rfl (r_pickf rfl rfl g163) ?_
      refine F.qn rfl rfl rfl rfl (r_move rfl) ?_
      iterate 3 refine F.sk rfl rfl rfl (wf rfl rfl rfl g168) ?_
      refine F.qn rfl rfl rfl rfl (r_pick rfl rfl g168) ?_
      refine F.qn rfl rfl rfl rfl (r_move rfl) ?_
      iterate 3 refine F.sk rfl rfl rfl (wf rfl rfl rfl rfl) ?_
      refine F.qn rfl rfl rfl rfl (r_pick rfl rfl rfl) ?_
      refine F.qn rfl rfl rfl rfl (r_move rfl) ?_
      iterate 3 refine F.sk rfl rfl rfl (wf rfl rfl rfl rfl) ?_
      refine F.qn rfl rfl rfl rfl (r_pick rfl rfl rfl) ?_
      refine F.qn rfl rfl rfl rfl (r_move rfl) ?_
      iterate 3 refine F.sk rfl rfl rfl (wf rfl rfl rfl rfl) ?_
      refine F.qn rfl rfl rfl rfl (r_pick rfl rfl rfl) ?_
      refine F.qn rfl rfl rfl rfl (r_move rfl) ?_
      iterate 4 refine F.sk rfl rfl rfl (wf rfl rfl rfl rfl) ?_
      refine F.qn rfl rfl rfl rfl (r_pick rfl rfl rfl) ?_
      refine F.qn rfl rfl rfl rfl (r_move rfl) ?_
      iterate 3 refine F.sk rfl rfl rfl (wf rfl rfl rfl rfl) ?_
      refine F.qn rfl rfl rfl rfl (r_pick rfl rfl rfl) ?_
      refine F.qn rfl rfl rfl rfl (r_move rfl) ?_
      iterate 3 refine F.sk rfl rfl rfl (wf rfl rfl rfl rfl) ?_
      refine F.qn rfl rfl rfl rfl (r_pick rfl rfl rfl) ?_
      refine F.qn rfl rfl rfl rfl (r_move rfl) ?_
      iterate 3 refine F.sk rfl rfl rfl (wf rfl rfl rfl rfl) ?_
      refine F.qn rfl rfl rfl rfl (r_pick rfl rfl rfl) ?_
      refine F.qn rfl rfl rfl rfl (r_move rfl) ?_
      iterate 4 refine F.sk rfl rfl rfl (wf rfl rfl rfl rfl) ?_
      refine F.qn rfl rfl rfl rfl (r_pick rfl rfl rfl) ?_
      refine F.qn rfl rfl rfl rfl (r_move rfl) ?_
      iterate 3 refine F.sk rfl rfl rfl (wf rfl rfl rfl rfl) ?_
      refine F.sk rfl rfl rfl (wanted_undef rfl rfl rfl) ?_
      refine F.sk rfl rfl rfl (wf rfl rfl rfl rfl) ?_
      refine F.sk rfl rfl rfl (wf rfl rfl rfl rfl) ?_
      refine F.qn rfl rfl rfl rfl (r_pick rfl rfl rfl) ?_
      refine F.qn rfl rfl rfl rfl (r_move rfl) ?_
      iterate 3 refine F.sk rfl rfl rfl (wf rfl rfl rfl rfl) ?_
      refine F.qn rfl rfl rfl rfl (r_pick rfl rfl rfl) ?_
      refine F.qn rfl rfl rfl rfl (r_move rfl) ?_
      iterate 3 refine F.sk rfl rfl rfl (wf rfl rfl rfl rfl) ?_
      refine F.sk rfl rfl rfl (wanted_undef rfl rfl rfl) ?_
      refine F.sk rfl rfl rfl (wf rfl rfl rfl rfl) ?_
      refine F.sk rfl rfl rfl (wf rfl rfl rfl rfl) ?_
      refine F.qn rfl rfl rfl rfl (r_pick rfl rfl rfl) ?_
      refine F.qn rfl rfl rfl rfl (r_move rfl) ?_
      iterate 3 refine F.sk rfl rfl rfl (wf rfl rfl rfl rfl) ?_
      refine F.qn rfl rfl rfl rfl (r_pick rfl rfl rfl) ?_
      refine F.nil ?_
      cases hE_1
      refine Nrm.only [3, 4, 5, 6, 7, 10, 14, 18, 19, 26, 27, 28, 29, 30, 31, 32, 240] rfl ?_
      refine Nrm.pick [2, 12, 15, 8, 3, 4, 5, 1, 16, 17, 18, 13, 14] rfl rfl ?_
      exact hj_1 _ _ ⟨rfl, rfl⟩
     ·replace hE_1 := if_ff g168 hE_1
      rcases Bool.eq_false_or_eq_true (t75_2 != t82_2) with g173 | g173
      ·replace hE_1 := if_tt g173 hE_1
       refine Tri.reg (l := List.range 87) rfl ?_
       refine F.qn rfl rfl rfl rfl (r_move rfl) ?_
       refine F.qn rfl rfl rfl rfl (r_move rfl) ?_
       refine F.qn rfl rfl rfl rfl (r_neqB Try.underlying4 rfl rfl) ?_
       refine F.qn rfl rfl rfl rfl (r_move rfl) ?_
       refine F.qg rfl rfl rfl rfl rfl rfl g157 (r_loadA ta27 ti27 rfl rfl (fun w hw => (box_cells (i := 12) rfl w hw))) ?_
       refine F.qg rfl rfl rfl rfl rfl rfl g157 (r_loadA ta27 ti27 rfl rfl (fun w hw => (box_cells (i := 9) rfl w hw))) ?_
       refine F.qc rfl rfl rfl (wg rfl rfl rfl g157) (q_callF (xs := _) rfl ok44 rfl rfl (fun w hw => laws_vMaze.ok h160 w ((rd_sl (i := 13) rfl) w hw) ((rd_sl (i := 14) rfl) w hw) ((rd_sl (i := 10) rfl) w hw) ((rd_sl (i := 11) rfl) w hw))) ?_
       refine F.qg rfl rfl rfl rfl rfl rfl g157 (r_not rfl) ?_
       refine F.qn rfl rfl rfl rfl (r_pickf rfl rfl g157) ?_
       refine F.qn rfl rfl rfl rfl (r_move rfl) ?_
       refine F.qg rfl rfl rfl rfl rfl rfl g163 (r_move rfl) ?_
       refine F.qg rfl rfl rfl rfl rfl rfl g163 (r_move rfl) ?_
       refine F.qg rfl rfl rfl rfl rfl rfl g163 (r_neqB Try.underlying4 rfl rfl) ?_
       refine F.qn rfl rfl rfl rfl (r_pickf rfl rfl g163) ?_
       refine F.qn rfl rfl rfl rfl (r_move rfl) ?_
       refine F.qg rfl rfl rfl rfl rfl rfl g168 (r_move rfl) ?_
       refine F.qg rfl rfl rfl rfl rfl rfl g168 (r_move rfl) ?_
       refine F.qg rfl rfl rfl rfl rfl rfl g168 (r_neqB Try.underlying4 rfl rfl) ?_
       refine F.qn rfl rfl rfl rfl (r_pickf rfl rfl g168) ?_
       refine F.qn rfl rfl rfl rfl (r_move rfl) ?_
       iterate 3 refine F.sk rfl rfl rfl (wf rfl rfl rfl g173) ?_
       refine F.qn rfl rfl rfl rfl (r_pick rfl rfl g173) ?_
       refine F.qn rfl rfl rfl rfl (r_move rfl) ?_
       iterate 3 refine F.sk rfl rfl rfl (wf rfl rfl rfl rfl) ?_
       refine F.qn rfl rfl rfl rfl (r_pick rfl rfl rfl) ?_
       refine F.qn rfl rfl rfl rfl (r_move rfl) ?_
       iterate 3 refine F.sk rfl rfl rfl (wf rfl rfl rfl rfl) ?_
       refine F.qn rfl rfl rfl rfl (r_pick rfl rfl rfl) ?_
       refine F.qn rfl rfl rfl rfl (r_move rfl) ?_
       iterate 4 refine F.sk rfl rfl rfl (wf rfl rfl rfl rfl) ?_
       refine F.qn rfl rfl rfl rfl (r_pick rfl rfl rfl) ?_
       refine F.qn rfl rfl rfl rfl (r_move rfl) ?_
       iterate 3 refine F.sk rfl rfl rfl (wf rfl rfl rfl rfl) ?_
       refine F.qn rfl rfl rfl rfl (r_pick rfl rfl rfl) ?_
       refine F.qn rfl rfl rfl rfl (r_move rfl) ?_
       iterate 3 refine F.sk rfl rfl rfl (wf rfl rfl rfl rfl) ?_
       refine F.qn rfl rfl rfl rfl (r_pick rfl rfl rfl) ?_
       refine F.qn rfl rfl rfl rfl (r_move rfl) ?_
       iterate 3 refine F.sk rfl rfl rfl (wf rfl rfl rfl rfl) ?_
       refine F.qn rfl rfl rfl rfl (r_pick rfl rfl rfl) ?_
       refine F.qn rfl rfl rfl rfl (r_move rfl) ?_
       iterate 4 refine F.sk rfl rfl rfl (wf rfl rfl rfl rfl) ?_
       refine F.qn rfl rfl rfl rfl (r_pick rfl rfl rfl) ?_
       refine F.qn rfl rfl rfl rfl (r_move rfl) ?_
       iterate 3 refine F.sk rfl rfl rfl (wf rfl rfl rfl rfl) ?_
       refine F.sk rfl rfl rfl (wanted_undef rfl rfl rfl) ?_
       refine F.sk rfl rfl rfl (wf rfl rfl rfl rfl) ?_
       refine F.sk rfl rfl rfl (wf rfl rfl rfl rfl) ?_
       refine F.qn rfl rfl rfl rfl (r_pick rfl rfl rfl) ?_
       refine F.qn rfl rfl rfl rfl (r_move rfl) ?_
       iterate 3 refine F.sk rfl rfl rfl (wf rfl rfl rfl rfl) ?_
       refine F.qn rfl rfl rfl rfl (r_pick rfl rfl rfl) ?_
       refine F.qn rfl rfl rfl rfl (r_move rfl) ?_
       iterate 3 refine F.sk rfl rfl rfl (wf rfl rfl rfl rfl) ?_
       refine F.sk rfl rfl rfl (wanted_undef rfl rfl rfl) ?_
       refine F.sk rfl rfl rfl (wf rfl rfl rfl rfl) ?_
       refine F.sk rfl rfl rfl (wf rfl rfl rfl rfl) ?_
       refine F.qn rfl rfl rfl rfl (r_pick rfl rfl rfl) ?_
       refine F.qn rfl rfl rfl rfl (r_move rfl) ?_
       iterate 3 refine F.sk rfl rfl rfl (wf rfl rfl rfl rfl) ?_
       refine F.qn rfl rfl rfl rfl (r_pick rfl rfl rfl) ?_
       refine F.nil ?_
       cases hE_1
       refine Nrm.only [3, 4, 5, 6, 7, 10, 14, 18, 19, 26, 27, 28, 29, 30, 31, 32, 240] rfl ?_
       refine Nrm.pick [2, 12, 15, 8, 3, 4, 5, 1, 16, 17, 18, 13, 14] rfl rfl ?_
       exact hj_1 _ _ ⟨rfl, rfl⟩
      ·replace hE_1 := if_ff g173 hE_1
       rcases Bool.eq_false_or_eq_true (t89_1 != t96_1) with g178 | g178
       ·replace hE_1 := if_tt g178 hE_1
        refine Tri.reg (l := List.range 87) rfl ?_
        refine F.qn rfl rfl rfl rfl (r_move rfl) ?_
        refine F.qn rfl rfl rfl rfl (r_move rfl) ?_
        refine F.qn rfl rfl rfl rfl (r_neqB Try.underlying4 rfl rfl) ?_
        refine F.qn rfl rfl rfl rfl (r_move rfl) ?_
        refine F.qg rfl rfl rfl rfl rfl rfl g157 (r_loadA ta27 ti27 rfl rfl (fun w hw => (box_cells (i := 12) rfl w hw))) ?_
        refine F.qg rfl rfl rfl rfl rfl rfl g157 (r_loadA ta27 ti27 rfl rfl (fun w hw => (box_cells (i := 9) rfl w hw))) ?_
        refine F.qc rfl rfl rfl (wg rfl rfl rfl g157) (q_callF (xs := _) rfl ok44 rfl rfl (fun w hw => laws_vMaze.ok h160 w ((rd_sl (i := 13) rfl) w hw) ((rd_sl (i := 14) rfl) w hw) ((rd_sl (i := 10) rfl) w hw) ((rd_sl (i := 11) rfl) w hw))) ?_
        refine F.qg rfl rfl rfl rfl rfl rfl g157 (r_not rfl) ?_
        refine F.qn rfl rfl rfl rfl (r_pickf rfl rfl g157) ?_
        refine F.qn rfl rfl rfl rfl (r_move rfl) ?_
        refine F.qg rfl rfl rfl rfl rfl rfl g163 (r_move rfl) ?_
        refine F.qg rfl rfl rfl rfl rfl rfl g163 (r_move rfl) ?_
        refine F.qg rfl rfl rfl rfl rfl rfl g163 (r_neqB Try.underlying4 rfl rfl) ?_
        refine F.qn rfl rfl rfl rfl (r_pickf rfl rfl g163) ?_
        refine F.qn rfl rfl rfl rfl (r_move rfl) ?_
        refine F.qg rfl rfl rfl rfl rfl rfl g168 (r_move rfl) ?_
        refine F.qg rfl rfl rfl rfl rfl rfl g168 (r_move rfl) ?_
        refine F.qg rfl rfl rfl rfl rfl rfl g168 (r_neqB Try.underlying4 rfl rfl) ?_
        refine F.qn rfl rfl rfl rfl (r_pickf rfl rfl g168) ?_
        refine F.qn rfl rfl rfl rfl (r_move rfl) ?_
        refine F.qg rfl rfl rfl rfl rfl rfl g173 (r_move rfl) ?_
        refine F.qg rfl rfl rfl rfl rfl rfl g173 (r_move rfl) ?_
        refine F.qg rfl rfl rfl rfl rfl rfl g173 (r_neq rfl rfl) ?_
        refine F.qn rfl rfl rfl rfl (r_pickf rfl rfl g173) ?_
        refine F.qn rfl rfl rfl rfl (r_move rfl) ?_
        iterate 3 refine F.sk rfl rfl rfl (wf rfl rfl rfl g178) ?_
        refine F.qn rfl rfl rfl rfl (r_pick rfl rfl g178) ?_
        refine F.qn rfl rfl rfl rfl (r_move rfl) ?_
        iterate 3 refine F.sk rfl rfl rfl (wf rfl rfl rfl rfl) ?_
        refine F.qn rfl rfl rfl rfl (r_pick rfl rfl rfl) ?_
        refine F.qn rfl rfl rfl rfl (r_move rfl) ?_
        iterate 4 refine F.sk rfl rfl rfl (wf rfl rfl rfl rfl) ?_
        refine F.qn rfl rfl rfl rfl (r_pick rfl rfl rfl) ?_
        refine F.qn rfl rfl rfl rfl (r_move rfl) ?_
        iterate 3 refine F.sk rfl rfl rfl (wf rfl rfl rfl rfl) ?_
        refine F.qn rfl rfl rfl rfl (r_pick rfl rfl rfl) ?_
        refine F.qn rfl rfl rfl rfl (r_move rfl) ?_
        iterate 3 refine F.sk rfl rfl rfl (wf rfl rfl rfl rfl) ?_
        refine F.qn rfl rfl rfl rfl (r_pick rfl rfl rfl) ?_
        refine F.qn rfl rfl rfl rfl (r_move rfl) ?_
        iterate 3 refine F.sk rfl rfl rfl (wf rfl rfl rfl rfl) ?_
        refine F.qn rfl rfl rfl rfl (r_pick rfl rfl rfl) ?_
        refine F.qn rfl rfl rfl rfl (r_move rfl) ?_
        iterate 4 refine F.sk rfl rfl rfl (wf rfl rfl rfl rfl) ?_
        refine F.qn rfl rfl rfl rfl (r_pick rfl rfl rfl) ?_
        refine F.qn rfl rfl rfl rfl (r_move rfl) ?_
        iterate 3 refine F.sk rfl rfl rfl (wf rfl rfl rfl rfl) ?_
        refine F.sk rfl rfl rfl (wanted_undef rfl rfl rfl) ?_
        refine F.sk rfl rfl rfl (wf rfl rfl rfl rfl) ?_
        refine F.sk rfl rfl rfl (wf rfl rfl rfl rfl) ?_
        refine F.qn rfl rfl rfl rfl (r_pick rfl rfl rfl) ?_
        refine F.qn rfl rfl rfl rfl (r_move rfl) ?_
        iterate 3 refine F.sk rfl rfl rfl (wf rfl rfl rfl rfl) ?_
        refine F.qn rfl rfl rfl rfl (r_pick rfl rfl rfl) ?_
        refine F.qn rfl rfl rfl rfl (r_move rfl) ?_
        iterate 3 refine F.sk rfl rfl rfl (wf rfl rfl rfl rfl) ?_
        refine F.sk rfl rfl rfl (wanted_undef rfl rfl rfl) ?_
        refine F.sk rfl rfl rfl (wf rfl rfl rfl rfl) ?_
        refine F.sk rfl rfl rfl (wf rfl rfl rfl rfl) ?_
        refine F.qn rfl rfl rfl rfl (r_pick rfl rfl rfl) ?_
        refine F.qn rfl rfl rfl rfl (r_move rfl) ?_
        iterate 3 refine F.sk rfl rfl rfl (wf rfl rfl rfl rfl) ?_
        refine F.qn rfl rfl rfl rfl (r_pick rfl rfl rfl) ?_
        refine F.nil ?_
        cases hE_1
        refine Nrm.only [3, 4, 5, 6, 7, 10, 14, 18, 19, 26, 27, 28, 29, 30, 31, 32, 240] rfl ?_
        refine Nrm.pick [2, 12, 15, 8, 3, 4, 5, 1, 16, 17, 18, 13, 14] rfl rfl ?_
        exact hj_1 _ _ ⟨rfl, rfl⟩
       ·replace hE_1 := if_ff g178 hE_1
        rcases Bool.eq_false_or_eq_true (t89_2 != t96_2) with g183 | g183
        ·replace hE_1 := if_tt g183 hE_1
         refine Tri.reg (l := List.range 87) rfl ?_
         refine F.qn rfl rfl rfl rfl (r_move rfl) ?_
         refine F.qn rfl rfl rfl rfl (r_move rfl) ?_
         refine F.qn rfl rfl rfl rfl (r_neqB Try.underlying4 rfl rfl) ?_
         refine F.qn rfl rfl rfl rfl (r_move rfl) ?_
         refine F.qg rfl rfl rfl rfl rfl rfl g157 (r_loadA ta27 ti27 rfl rfl (fun w hw => (box_cells (i := 12) rfl w hw))) ?_
         refine F.qg rfl rfl rfl rfl rfl rfl g157 (r_loadA ta27 ti27 rfl rfl (fun w hw => (box_cells (i := 9) rfl w hw))) ?_
         refine F.qc rfl rfl rfl (wg rfl rfl rfl g157) (q_callF (xs := _) rfl ok44 rfl rfl (fun w hw => laws_vMaze.ok h160 w ((rd_sl (i := 13) rfl) w hw) ((rd_sl (i := 14) rfl) w hw) ((rd_sl (i := 10) rfl) w hw) ((rd_sl (i := 11) rfl) w hw))) ?_
         refine F.qg rfl rfl rfl rfl rfl rfl g157 (r_not rfl) ?_
         refine F.qn rfl rfl rfl rfl (r_pickf rfl rfl g157) ?_
         refine F.qn rfl rfl rfl rfl (r_move rfl) ?_
         refine F.qg rfl rfl rfl rfl rfl rfl g163 (r_move rfl) ?_
         refine F.qg rfl rfl rfl rfl rfl rfl g163 (r_move rfl) ?_
         refine F.qg rfl rfl rfl rfl rfl rfl g163 (r_neqB Try.underlying4 rfl rfl) ?_
         refine F.qn rfl rfl rfl rfl (r_pickf rfl rfl g163) ?_
         refine F.qn rfl rfl rfl rfl (r_move rfl) ?_
         refine F.qg rfl rfl rfl rfl rfl rfl g168 (r_move rfl) ?_
         refine F.qg rfl rfl rfl rfl rfl rfl g168 (r_move rfl) ?_
         refine F.qg rfl rfl rfl rfl rfl rfl g168 (r_neqB Try.underlying4 rfl rfl) ?_
         refine F.qn rfl rfl rfl rfl (r_pickf rfl rfl g168) ?_
         refine F.qn rfl rfl rfl rfl (r_move rfl) ?_
         refine F.qg rfl rfl rfl rfl rfl rfl g173 (r_move rfl) ?_
         refine F.qg rfl rfl rfl rfl rfl rfl g173 (r_move rfl) ?_
         refine F.qg rfl rfl rfl rfl rfl rfl g173 (r_neq rfl rfl) ?_
         refine F.qn rfl rfl rfl rfl (r_pickf rfl rfl g173) ?_
         refine F.qn rfl rfl rfl rfl (r_move rfl) ?_
         refine F.qg rfl rfl rfl rfl rfl rfl g178 (r_move rfl) ?_
         refine F.qg rfl rfl rfl rfl rfl rfl g178 (r_move rfl) ?_
         refine F.qg rfl rfl rfl rfl rfl rfl g178 (r_neqB Try.underlying4 rfl rfl) ?_
         refine F.qn rfl rfl rfl rfl (r_pickf rfl rfl g178) ?_
         refine F.qn rfl rfl rfl rfl (r_move rfl) ?_
         iterate 3 refine F.sk rfl rfl rfl (wf rfl rfl rfl g183) ?_
         refine F.qn rfl rfl rfl rfl (r_pick rfl rfl g183) ?_
         refine F.qn rfl rfl rfl rfl (r_move rfl) ?_
         iterate 4 refine F.sk rfl rfl rfl (wf rfl rfl rfl rfl) ?_
         refine F.qn rfl rfl rfl rfl (r_pick rfl rfl rfl) ?_
         refine F.qn rfl rfl rfl rfl (r_move rfl) ?_
         iterate 3 refine F.sk rfl rfl rfl (wf rfl rfl rfl rfl) ?_
         refine F.qn rfl rfl rfl rfl (r_pick rfl rfl rfl) ?_
         refine F.qn rfl rfl rfl rfl (r_move rfl) ?_
         iterate 3 refine F.sk rfl rfl rfl (wf rfl rfl rfl rfl) ?_
         refine F.qn rfl rfl rfl rfl (r_pick rfl rfl rfl) ?_
         refine F.qn rfl rfl rfl rfl (r_move rfl) ?_
         iterate 3 refine F.sk rfl rfl rfl (wf rfl rfl rfl rfl) ?_
         refine F.qn rfl rfl rfl rfl (r_pick rfl rfl rfl) ?_
         refine F.qn rfl rfl rfl rfl (r_move rfl) ?_
         iterate 4 refine F.sk rfl rfl rfl (wf rfl rfl rfl rfl) ?_
         refine F.qn rfl rfl rfl rfl (r_pick rfl rfl rfl) ?_
         refine F.qn rfl rfl rfl rfl (r_move rfl) ?_
         iterate 3 refine F.sk rfl rfl rfl (wf rfl rfl rfl rfl) ?_
         refine F.sk rfl rfl rfl (wanted_undef rfl rfl rfl) ?_
         refine F.sk rfl rfl rfl (wf rfl rfl rfl rfl) ?_
         refine F.sk rfl rfl rfl (wf rfl rfl rfl rfl) ?_
         refine F.qn rfl rfl rfl rfl (r_pick rfl rfl rfl) ?_
         refine F.qn rfl rfl rfl rfl (r_move rfl) ?_
         iterate 3 refine F.sk rfl rfl rfl (wf rfl rfl rfl rfl) ?_
         refine F.qn rfl rfl rfl rfl (r_pick rfl rfl rfl) ?_
         refine F.qn rfl rfl rfl rfl (r_move rfl) ?_
         iterate 3 refine F.sk rfl rfl rfl (wf rfl rfl rfl rfl) ?_
         refine F.sk rfl rfl rfl (wanted_undef rfl rfl rfl) ?_
         refine F.sk rfl rfl rfl (wf rfl rfl rfl rfl) ?_
         refine F.sk rfl rfl rfl (wf rfl rfl rfl rfl) ?_
         refine F.qn rfl rfl rfl rfl (r_pick rfl rfl rfl) ?_
         refine F.qn rfl rfl rfl rfl (r_move rfl) ?_
         iterate 3 refine F.sk rfl rfl rfl (wf rfl rfl rfl rfl) ?_
         refine F.qn rfl rfl rfl rfl (r_pick rfl rfl rfl) ?_
         refine F.nil ?_
         cases hE_1
         refine Nrm.only [3, 4, 5, 6, 7, 10, 14, 18, 19, 26, 27, 28, 29, 30, 31, 32, 240] rfl ?_
         refine Nrm.pick [2, 12, 15, 8, 3, 4, 5, 1, 16, 17, 18, 13, 14] rfl rfl ?_
         exact hj_1 _ _ ⟨rfl, rfl⟩
        ·replace hE_1 := if_ff g183 hE_1
         rcases Bool.eq_false_or_eq_true (t103_2 != t110_2) with g188 | g188
         ·replace hE_1 := if_tt g188 hE_1
          refine Tri.reg (l := List.range 87) rfl ?_
          refine F.qn rfl rfl rfl rfl (r_move rfl) ?_
          refine F.qn rfl rfl rfl rfl (r_move rfl) ?_
          refine F.qn rfl rfl rfl rfl (r_neqB Try.underlying4 rfl rfl) ?_
          refine F.qn rfl rfl rfl rfl (r_move rfl) ?_
          refine F.qg rfl rfl rfl rfl rfl rfl g157 (r_loadA ta27 ti27 rfl rfl (fun w hw => (box_cells (i := 12) rfl w hw))) ?_
          refine F.qg rfl rfl rfl rfl rfl rfl g157 (r_loadA ta27 ti27 rfl rfl (fun w hw => (box_cells (i := 9) rfl w hw))) ?_
          refine F.qc rfl rfl rfl (wg rfl rfl rfl g157) (q_callF (xs := _) rfl ok44 rfl rfl (fun w hw => laws_vMaze.ok h160 w ((rd_sl (i := 13) rfl) w hw) ((rd_sl (i := 14) rfl) w hw) ((rd_sl (i := 10) rfl) w hw) ((rd_sl (i := 11) rfl) w hw))) ?_
          refine F.qg rfl rfl rfl rfl rfl rfl g157 (r_not rfl) ?_
          refine F.qn rfl rfl rfl rfl (r_pickf rfl rfl g157) ?_
          refine F.qn rfl rfl rfl rfl (r_move rfl) ?_
          refine F.qg rfl rfl rfl rfl rfl rfl g163 (r_move rfl) ?_
          refine F.qg rfl rfl rfl rfl rfl rfl g163 (r_move rfl) ?_
          refine F.qg rfl rfl rfl rfl rfl rfl g163 (r_neqB Try.underlying4 rfl rfl) ?_
          refine F.qn rfl rfl rfl rfl (r_pickf rfl rfl g163) ?_
          refine F.qn rfl rfl rfl rfl (r_move rfl) ?_
          refine F.qg rfl rfl rfl rfl rfl rfl g168 (r_move rfl) ?_
          refine F.qg rfl rfl rfl rfl rfl rfl g168 (r_move rfl) ?_
          refine F.qg rfl rfl rfl rfl rfl rfl g168 (r_neqB Try.underlying4 rfl rfl) ?_
          refine F.qn rfl rfl rfl rfl (r_pickf rfl rfl g168) ?_
          refine F.qn rfl rfl rfl rfl (r_move rfl) ?_
          refine F.qg rfl rfl rfl rfl rfl rfl g173 (r_move rfl) ?_
          refine F.qg rfl rfl rfl rfl rfl rfl g173 (r_move rfl) ?_
          refine F.qg rfl rfl rfl rfl rfl rfl g173 (r_neq rfl rfl) ?_
          refine F.qn rfl rfl rfl rfl (r_pickf rfl rfl g173) ?_
          refine F.qn rfl rfl rfl rfl (r_move rfl) ?_
          refine F.qg rfl rfl rfl rfl rfl rfl g178 (r_move rfl) ?_
          refine F.qg rfl rfl rfl rfl rfl rfl g178 (r_move rfl) ?_
          refine F.qg rfl rfl rfl rfl rfl rfl g178 (r_neqB Try.underlying4 rfl rfl) ?_
          refine F.qn rfl rfl rfl rfl (r_pickf rfl rfl g178) ?_
          refine F.qn rfl rfl rfl rfl (r_move rfl) ?_
          refine F.qg rfl rfl rfl rfl rfl rfl g183 (r_move rfl) ?_
          refine F.qg rfl rfl rfl rfl rfl rfl g183 (r_move rfl) ?_
          refine F.qg rfl rfl rfl rfl rfl rfl g183 (r_neqB Try.underlying4 rfl rfl) ?_
          refine F.qn rfl rfl rfl rfl (r_pickf rfl rfl g183) ?_
          refine F.qn rfl rfl rfl rfl (r_move rfl) ?_
          iterate 4 refine F.sk rfl rfl rfl (wf rfl rfl rfl g188) ?_
          refine F.qn rfl rfl rfl rfl (r_pick rfl rfl g188) ?_
          refine F.qn rfl rfl rfl rfl (r_move rfl) ?_
          iterate 3 refine F.sk rfl rfl rfl (wf rfl rfl rfl rfl) ?_
          refine F.qn rfl rfl rfl rfl (r_pick rfl rfl rfl) ?_
          refine F.qn rfl rfl rfl rfl (r_move rfl) ?_
          iterate 3 refine F.sk rfl rfl rfl (wf rfl rfl rfl rfl) ?_
          refine F.qn rfl rfl rfl rfl (r_pick rfl rfl rfl) ?_
          refine F.qn rfl rfl rfl rfl (r_move rfl) ?_
          iterate 3 refine F.sk rfl rfl rfl (wf rfl rfl rfl rfl) ?_
          refine F.qn rfl rfl rfl rfl (r_pick rfl rfl rfl) ?_
          refine F.qn rfl rfl rfl rfl (r_move rfl) ?_
          iterate 4 refine F.sk rfl rfl rfl (wf rfl rfl rfl rfl) ?_
          refine F.qn rfl rfl rfl rfl (r_pick rfl rfl rfl) ?_
          refine F.qn rfl rfl rfl rfl (r_move rfl) ?_
          iterate 3 refine F.sk rfl rfl rfl (wf rfl rfl rfl rfl) ?_
          refine F.sk rfl rfl rfl (wanted_undef rfl rfl rfl) ?_
          refine F.sk rfl rfl rfl (wf rfl rfl rfl rfl) ?_
          refine F.sk rfl rfl rfl (wf rfl rfl rfl rfl) ?_
          refine F.qn rfl rfl rfl rfl (r_pick rfl rfl rfl) ?_
          refine F.qn rfl rfl rfl rfl (r_move rfl) ?_
          iterate 3 refine F.sk rfl rfl rfl (wf rfl rfl rfl rfl) ?_
          refine F.qn rfl rfl rfl rfl (r_pick rfl rfl rfl) ?_
          refine F.qn rfl rfl rfl rfl (r_move rfl) ?_
          iterate 3 refine F.sk rfl rfl rfl (wf rfl rfl rfl rfl) ?_
          refine F.sk rfl rfl rfl (wanted_undef rfl rfl rfl) ?_
          refine F.sk rfl rfl rfl (wf rfl rfl rfl rfl) ?_
          refine F.sk rfl rfl rfl (wf rfl rfl rfl rfl) ?_
          refine F.qn rfl rfl rfl rfl (r_pick rfl rfl rfl) ?_
          refine F.qn rfl rfl rfl rfl (r_move rfl) ?_
          iterate 3 refine F.sk rfl rfl rfl (wf rfl rfl rfl rfl) ?_
          refine F.qn rfl rfl rfl rfl (r_pick rfl rfl rfl) ?_
          refine F.nil ?_
          cases hE_1
          refine Nrm.only [3, 4, 5, 6, 7, 10, 14, 18, 19, 26, 27, 28, 29, 30, 31, 32, 240] rfl ?_
          refine Nrm.pick [2, 12, 15, 8, 3, 4, 5, 1, 16, 17, 18, 13, 14] rfl rfl ?_
          exact hj_1 _ _ ⟨rfl, rfl⟩
         ·replace hE_1 := if_ff g188 hE_1
          obtain ⟨t191, h191, hE_1⟩ := bind_some hE_1
          rcases Bool.eq_false_or_eq_true (!t191) with g194 | g194
          ·replace hE_1 := if_tt g194 hE_1
           refine Tri.reg (l := List.range 87) rfl ?_
           refine F.qn rfl rfl rfl rfl (r_move rfl) ?_
           refine F.qn rfl rfl rfl rfl (r_move rfl) ?_
           refine F.qn rfl rfl rfl rfl (r_neqB Try.underlying4 rfl rfl) ?_
           refine F.qn rfl rfl rfl rfl (r_move rfl) ?_
           refine F.qg rfl rfl rfl rfl rfl rfl g157 (r_loadA ta27 ti27 rfl rfl (fun w hw => (box_cells (i := 12) rfl w hw))) ?_
           refine F.qg rfl rfl rfl rfl rfl rfl g157 (r_loadA ta27 ti27 rfl rfl (fun w hw => (box_cells (i := 9) rfl w hw))) ?_
           refine F.qc rfl rfl rfl (wg rfl rfl rfl g157) (q_callF (xs := _) rfl ok44 rfl rfl (fun w hw => laws_vMaze.ok h160 w ((rd_sl (i := 13) rfl) w hw) ((rd_sl (i := 14) rfl) w hw) ((rd_sl (i := 10) rfl) w hw) ((rd_sl (i := 11) rfl) w hw))) ?_
           refine F.qg rfl rfl rfl rfl rfl rfl g157 (r_not rfl) ?_
           refine F.qn rfl rfl rfl rfl (r_pickf rfl rfl g157) ?_
           refine F.qn rfl rfl rfl rfl (r_move rfl) ?_
           refine F.qg rfl rfl rfl rfl rfl rfl g163 (r_move rfl) ?_
           refine F.qg rfl rfl rfl rfl rfl rfl g163 (r_move rfl) ?_
           refine F.qg rfl rfl rfl rfl rfl rfl g163 (r_neqB Try.underlying4 rfl rfl) ?_
           refine F.qn rfl rfl rfl rfl (r_pickf rfl rfl g163) ?_
           refine F.qn rfl rfl rfl rfl (r_move rfl) ?_
           refine F.qg rfl rfl rfl rfl rfl rfl g168 (r_move rfl) ?_
           refine F.qg rfl rfl rfl rfl rfl rfl g168 (r_move rfl) ?_
           refine F.qg rfl rfl rfl rfl rfl rfl g168 (r_neqB Try.underlying4 rfl rfl) ?_
           refine F.qn rfl rfl rfl rfl (r_pickf rfl rfl g168) ?_
           refine F.qn rfl rfl rfl rfl (r_move rfl) ?_
           refine F.qg rfl rfl rfl rfl rfl rfl g173 (r_move rfl) ?_
           refine F.qg rfl rfl rfl rfl rfl rfl g173 (r_move rfl) ?_
           refine F.qg rfl rfl rfl rfl rfl rfl g173 (r_neq rfl rfl) ?_
           refine F.qn rfl rfl rfl rfl (r_pickf rfl rfl g173) ?_
           refine F.qn rfl rfl rfl rfl (r_move rfl) ?_
           refine F.qg rfl rfl rfl rfl rfl rfl g178 (r_move rfl) ?_
           refine F.qg rfl rfl rfl rfl rfl rfl g178 (r_move rfl) ?_
           refine F.qg rfl rfl rfl rfl rfl rfl g178 (r_neqB Try.underlying4 rfl rfl) ?_
           refine F.qn rfl rfl rfl rfl (r_pickf rfl rfl g178) ?_
           refine F.qn rfl rfl rfl rfl (r_move rfl) ?_
           refine F.qg rfl rfl rfl rfl rfl rfl g183 (r_move rfl) ?_
           refine F.qg rfl rfl rfl rfl rfl rfl g183 (r_move rfl) ?_
           refine F.qg rfl rfl rfl rfl rfl rfl g183 (r_neqB Try.underlying4 rfl rfl) ?_
           refine F.qn rfl rfl rfl rfl (r_pickf rfl rfl g183) ?_
           refine F.qn rfl rfl rfl rfl (r_move rfl) ?_
           refine F.qg rfl rfl rfl rfl rfl rfl g188 (r_move rfl) ?_
           refine F.qg rfl rfl rfl rfl rfl rfl g188 (r_move rfl) ?_
           refine F.qc rfl rfl rfl (wg rfl rfl rfl g188) (q_callF (xs := _) rfl ok45 rfl rfl (fun w hw => laws_vPairs.ok h191 w ((rd_sl (i := 8) rfl) w hw) ((rd_sl (i := 7) rfl) w hw))) ?_
           refine F.qg rfl rfl rfl rfl rfl rfl g188 (r_not rfl) ?_
           refine F.qn rfl rfl rfl rfl (r_pickf rfl rfl g188) ?_
           refine F.qn rfl rfl rfl rfl (r_move rfl) ?_
           iterate 3 refine F.sk rfl rfl rfl (wf rfl rfl rfl g194) ?_
           refine F.qn rfl rfl rfl rfl (r_pick rfl rfl g194) ?_
           refine F.qn rfl rfl rfl rfl (r_move rfl) ?_
           iterate 3 refine F.sk rfl rfl rfl (wf rfl rfl rfl rfl) ?_
           refine F.qn rfl rfl rfl rfl (r_pick rfl rfl rfl) ?_
           refine F.qn rfl rfl rfl rfl (r_move rfl) ?_
           iterate 3 refine F.sk rfl rfl rfl (wf rfl rfl rfl rfl) ?_
           refine F.qn rfl rfl rfl rfl (r_pick rfl rfl rfl) ?_
           refine F.qn rfl rfl rfl rfl (r_move rfl) ?_
           iterate 4 refine F.sk rfl rfl rfl (wf rfl rfl rfl rfl) ?_
           refine F.qn rfl rfl rfl rfl (r_pick rfl rfl rfl) ?_
           refine F.qn rfl rfl rfl rfl (r_move rfl) ?_
           iterate 3 refine F.sk rfl rfl rfl (wf rfl rfl rfl rfl) ?_
           refine F.sk rfl rfl rfl (wanted_undef rfl rfl rfl) ?_
           refine F.sk rfl rfl rfl (wf rfl rfl rfl rfl) ?_
           refine F.sk rfl rfl rfl (wf rfl rfl rfl rfl) ?_
           refine F.qn rfl rfl rfl rfl (r_pick rfl rfl rfl) ?_
           refine F.qn rfl rfl rfl rfl (r_move rfl) ?_
           iterate 3 refine F.sk rfl rfl rfl (wf rfl rfl rfl rfl) ?_
           refine F.qn rfl rfl rfl rfl (r_pick rfl rfl rfl) ?_
           refine F.qn rfl rfl rfl rfl (r_move rfl) ?_
           iterate 3 refine F.sk rfl rfl rfl (wf rfl rfl rfl rfl) ?_
           refine F.sk rfl rfl rfl (wanted_undef rfl rfl rfl) ?_
           refine F.sk rfl rfl rfl (wf rfl rfl rfl rfl) ?_
           refine F.sk rfl rfl rfl (wf rfl rfl rfl rfl) ?_
           refine F.qn rfl rfl rfl rfl (r_pick rfl rfl rfl) ?_
           refine F.qn rfl rfl rfl rfl (r_move rfl) ?_
           iterate 3 refine F.sk rfl rfl rfl (wf rfl rfl rfl rfl) ?_
           refine F.qn rfl rfl rfl rfl (r_pick rfl rfl rfl) ?_
           refine F.nil ?_
           cases hE_1
           refine Nrm.only [3, 4, 5, 6, 7, 10, 14, 18, 19, 26, 27, 28, 29, 30, 31, 32, 240] rfl ?_
           refine Nrm.pick [2, 12, 15, 8, 3, 4, 5, 1, 16, 17, 18, 13, 14] rfl rfl ?_
           exact hj_1 _ _ ⟨rfl, rfl⟩
          ·replace hE_1 := if_ff g194 hE_1
           rcases Bool.eq_false_or_eq_true (t117_1 != t124_1) with g199 | g199
           ·replace hE_1 := if_tt g199 hE_1
            refine Tri.reg (l := List.range 87) rfl ?_
            refine F.qn rfl rfl rfl rfl (r_move rfl) ?_
            refine F.qn rfl rfl rfl rfl (r_move rfl) ?_
            refine F.qn rfl rfl rfl rfl (r_neqB Try.underlying4 rfl rfl) ?_
            refine F.qn rfl rfl rfl rfl (r_move rfl) ?_
            refine F.qg rfl rfl rfl rfl rfl rfl g157 (r_loadA ta27 ti27 rfl rfl (fun w hw => (box_cells (i := 12) rfl w hw))) ?_
            refine F.qg rfl rfl rfl rfl rfl rfl g157 (r_loadA ta27 ti27 rfl rfl (fun w hw => (box_cells (i := 9) rfl w hw))) ?_
            refine F.qc rfl rfl rfl (wg rfl rfl rfl g157) (q_callF (xs := _) rfl ok44 rfl rfl (fun w hw => laws_vMaze.ok h160 w ((rd_sl (i := 13) rfl) w hw) ((rd_sl (i := 14) rfl) w hw) ((rd_sl (i := 10) rfl) w hw) ((rd_sl (i := 11) rfl) w hw))) ?_
            refine F.qg rfl rfl rfl rfl rfl rfl g157 (r_not rfl) ?_
            refine F.qn rfl rfl rfl rfl (r_pickf rfl rfl g157) ?_
            refine F.qn rfl rfl rfl rfl (r_move rfl) ?_
            refine F.qg rfl rfl rfl rfl rfl rfl g163 (r_move rfl) ?_
            refine F.qg rfl rfl rfl rfl rfl rfl g163 (r_move rfl) ?_
            refine F.qg rfl rfl rfl rfl rfl rfl g163 (r_neqB Try.underlying4 rfl rfl) ?_
            refine F.qn rfl rfl rfl rfl (r_pickf rfl rfl g163) ?_
            refine F.qn rfl rfl rfl rfl (r_move rfl) ?_
            refine F.qg rfl rfl rfl rfl rfl rfl g168 (r_move rfl) ?_
            refine F.qg rfl rfl rfl rfl rfl rfl g168 (r_move rfl) ?_
            refine F.qg rfl rfl rfl rfl rfl rfl g168 (r_neqB Try.underlying4 rfl rfl) ?_
            refine F.qn rfl rfl rfl rfl (r_pickf rfl rfl g168) ?_
            refine F.qn rfl rfl rfl rfl (r_move rfl) ?_
            refine F.qg rfl rfl rfl rfl rfl rfl g173 (r_move rfl) ?_
            refine F.qg rfl rfl rfl rfl rfl rfl g173 (r_move rfl) ?_
            refine F.qg rfl rfl rfl rfl rfl rfl g173 (r_neq rfl rfl) ?_
            refine F.qn rfl rfl rfl rfl (r_pickf rfl rfl g173) ?_
            refine F.qn rfl rfl rfl rfl (r_move rfl) ?_
            refine F.qg rfl rfl rfl rfl rfl rfl g178 (r_move rfl) ?_
            refine F.qg rfl rfl rfl rfl rfl rfl g178 (r_move rfl) ?_
            refine F.qg rfl rfl rfl rfl rfl rfl g178 (r_neqB Try.underlying4 rfl rfl) ?_
            refine F.qn rfl rfl rfl rfl (r_pickf rfl rfl g178) ?_
            refine F.qn rfl rfl rfl rfl (r_move rfl) ?_
            refine F.qg rfl rfl rfl rfl rfl rfl g183 (r_move rfl) ?_
            refine F.qg rfl rfl rfl rfl rfl rfl g183 (r_move rfl) ?_
            refine F.qg rfl rfl rfl rfl rfl rfl g183 (r_neqB Try.underlying4 rfl rfl) ?_
            refine F.qn rfl rfl rfl rfl (r_pickf rfl rfl g183) ?_
            refine F.qn rfl rfl rfl rfl (r_move rfl) ?_
            refine F.qg rfl rfl rfl rfl rfl rfl g188 (r_move rfl) ?_
            refine F.qg rfl rfl rfl rfl rfl rfl g188 (r_move rfl) ?_
            refine F.qc rfl rfl rfl (wg rfl rfl rfl g188) (q_callF (xs := _) rfl ok45 rfl rfl (fun w hw => laws_vPairs.ok h191 w ((rd_sl (i := 8) rfl) w hw) ((rd_sl (i := 7) rfl) w hw))) ?_
            refine F.qg rfl rfl rfl rfl rfl rfl g188 (r_not rfl) ?_
            refine F.qn rfl rfl rfl rfl (r_pickf rfl rfl g188) ?_
            refine F.qn rfl rfl rfl rfl (r_move rfl) ?_
            refine F.qg rfl rfl rfl rfl rfl rfl g194 (r_move rfl) ?_
            refine F.qg rfl rfl rfl rfl rfl rfl g194 (r_move rfl) ?_
            refine F.qg rfl rfl rfl rfl rfl rfl g194 (r_neqB Try.underlying4 rfl rfl) ?_
            refine F.qn rfl rfl rfl rfl (r_pickf rfl rfl g194) ?_
            refine F.qn rfl rfl rfl rfl (r_move rfl) ?_
            iterate 3 refine F.sk rfl rfl rfl (wf rfl rfl rfl g199) ?_
            refine F.qn rfl rfl rfl rfl (r_pick rfl rfl g199) ?_
            refine F.qn rfl rfl rfl rfl (r_move rfl) ?_
            iterate 3 refine F.sk rfl rfl rfl (wf rfl rfl rfl rfl) ?_
            refine F.qn rfl rfl rfl rfl (r_pick rfl rfl rfl) ?_
            refine F.qn rfl rfl rfl rfl (r_move rfl) ?_
            iterate 4 refine F.sk rfl rfl rfl (wf rfl rfl rfl rfl) ?_
            refine F.qn rfl rfl rfl rfl (r_pick rfl rfl rfl) ?_
            refine F.qn rfl rfl rfl rfl (r_move rfl) ?_
            iterate 3 refine F.sk rfl rfl rfl (wf rfl rfl rfl rfl) ?_
            refine F.sk rfl rfl rfl (wanted_undef rfl rfl rfl) ?_
            refine F.sk rfl rfl rfl (wf rfl rfl rfl rfl) ?_
            refine F.sk rfl rfl rfl (wf rfl rfl rfl rfl) ?_
            refine F.qn rfl rfl rfl rfl (r_pick rfl rfl rfl) ?_
            refine F.qn rfl rfl rfl rfl (r_move rfl) ?_
            iterate 3 refine F.sk rfl rfl rfl (wf rfl rfl rfl rfl) ?_
            refine F.qn rfl rfl rfl rfl (r_pick rfl rfl rfl) ?_
            refine F.qn rfl rfl rfl rfl (r_move rfl) ?_
            iterate 3 refine F.sk rfl rfl rfl (wf rfl rfl rfl rfl) ?_
            refine F.sk rfl rfl rfl (wanted_undef rfl rfl rfl) ?_
            refine F.sk rfl rfl rfl (wf rfl rfl rfl rfl) ?_
            refine F.sk rfl rfl rfl (wf rfl rfl rfl rfl) ?_
            refine F.qn rfl rfl rfl rfl (r_pick rfl rfl rfl) ?_
            refine F.qn rfl rfl rfl rfl (r_move rfl) ?_
            iterate 3 refine F.sk rfl rfl rfl (wf rfl rfl rfl rfl) ?_
            refine F.qn rfl rfl rfl rfl (r_pick rfl rfl rfl) ?_
            refine F.nil ?_
            cases hE_1
            refine Nrm.only [3, 4, 5, 6, 7, 10, 14, 18, 19, 26, 27, 28, 29, 30, 31, 32, 240] rfl ?_
            refine Nrm.pick [2, 12, 15, 8, 3, 4, 5, 1, 16, 17, 18, 13, 14] rfl rfl ?_
            exact hj_1 _ _ ⟨rfl, rfl⟩
           ·replace hE_1 := if_ff g199 hE_1
            rcases Bool.eq_false_or_eq_true (t117_2 != t124_2) with g204 | g204
            ·replace hE_1 := if_tt g204 hE_1
             refine Tri.reg (l := List.range 87) rfl ?_
             refine F.qn rfl rfl rfl rfl (r_move rfl) ?_
             refine F.qn rfl rfl rfl rfl (r_move rfl) ?_
             refine F.qn rfl rfl rfl rfl (r_neqB Try.underlying4 rfl rfl) ?_
             refine F.qn rfl rfl rfl rfl (r_move rfl) ?_
             refine F.qg rfl rfl rfl rfl rfl rfl g157 (r_loadA ta27 ti27 rfl rfl (fun w hw => (box_cells (i := 12) rfl w hw))) ?_
             refine F.qg rfl rfl rfl rfl rfl rfl g157 (r_loadA ta27 ti27 rfl rfl (fun w hw => (box_cells (i := 9) rfl w hw))) ?_
             refine F.qc rfl rfl rfl (wg rfl rfl rfl g157) (q_callF (xs := _) rfl ok44 rfl rfl (fun w hw => laws_vMaze.ok h160 w ((rd_sl (i := 13) rfl) w hw) ((rd_sl (i := 14) rfl) w hw) ((rd_sl (i := 10) rfl) w hw) ((rd_sl (i := 11) rfl) w hw))) ?_
             refine F.qg rfl rfl rfl rfl rfl rfl g157 (r_not rfl) ?_
             refine F.qn rfl rfl rfl rfl (r_pickf rfl rfl g157) ?_
             refine F.qn rfl rfl rfl rfl (r_move rfl) ?_
             refine F.qg rfl rfl rfl rfl rfl rfl g163 (r_move rfl) ?_
             refine F.qg rfl rfl rfl rfl rfl rfl g163 (r_move rfl) ?_
             refine F.qg rfl rfl rfl rfl rfl rfl g163 (r_neqB Try.underlying4 rfl rfl) ?_
             refine F.qn rfl rfl rfl rfl (r_pickf rfl rfl g163) ?_
             refine F.qn rfl rfl rfl rfl (r_move rfl) ?_
             refine F.qg rfl rfl rfl rfl rfl rfl g168 (r_move rfl) ?_
             refine F.qg rfl rfl rfl rfl rfl rfl g168 (r_move rfl) ?_
             refine F.qg rfl rfl rfl rfl rfl rfl g168 (r_neqB Try.underlying4 rfl rfl) ?_
             refine F.qn rfl rfl rfl rfl (r_pickf rfl rfl g168) ?_
             refine F.qn rfl rfl rfl rfl (r_move rfl) ?_
             refine F.qg rfl rfl rfl rfl rfl rfl g173 (r_move rfl) ?_
             refine F.qg rfl rfl rfl rfl rfl rfl g173 (r_move rfl) ?_
             refine F.qg rfl rfl rfl rfl rfl rfl g173 (r_neq rfl rfl) ?_
             refine F.qn rfl rfl rfl rfl (r_pickf rfl rfl g173) ?_
             refine F.qn rfl rfl rfl rfl (r_move rfl) ?_
             refine F.qg rfl rfl rfl rfl rfl rfl g178 (r_move rfl) ?_
             refine F.qg rfl rfl rfl rfl rfl rfl g178 (r_move rfl) ?_
             refine F.qg rfl rfl rfl rfl rfl rfl g178 (r_neqB Try.underlying4 rfl rfl) ?_
             refine F.qn rfl rfl rfl rfl (r_pickf rfl rfl g178) ?_
             refine F.qn rfl rfl rfl rfl (r_move rfl) ?_
             refine F.qg rfl rfl rfl rfl rfl rfl g183 (r_move rfl) ?_
             refine F.qg rfl rfl rfl rfl rfl rfl g183 (r_move rfl) ?_
             refine F.qg rfl rfl rfl rfl rfl rfl g183 (r_neqB Try.underlying4 rfl rfl) ?_
             refine F.qn rfl rfl rfl rfl (r_pickf rfl rfl g183) ?_
             refine F.qn rfl rfl rfl rfl (r_move rfl) ?_
             refine F.qg rfl rfl rfl rfl rfl rfl g188 (r_move rfl) ?_
             refine F.qg rfl rfl rfl rfl rfl rfl g188 (r_move rfl) ?_
             refine F.qc rfl rfl rfl (wg rfl rfl rfl g188) (q_callF (xs := _) rfl ok45 rfl rfl (fun w hw => laws_vPairs.ok h191 w ((rd_sl (i := 8) rfl) w hw) ((rd_sl (i := 7) rfl) w hw))) ?_
             refine F.qg rfl rfl rfl rfl rfl rfl g188 (r_not rfl) ?_
             refine F.qn rfl rfl rfl rfl (r_pickf rfl rfl g188) ?_
             refine F.qn rfl rfl rfl rfl (r_move rfl) ?_
             refine F.qg rfl rfl rfl rfl rfl rfl g194 (r_move rfl) ?_
             refine F.qg rfl rfl rfl rfl rfl rfl g194 (r_move rfl) ?_
             refine F.qg rfl rfl rfl rfl rfl rfl g194 (r_neqB Try.underlying4 rfl rfl) ?_
             refine F.qn rfl rfl rfl rfl (r_pickf rfl rfl g194) ?_
             refine F.qn rfl rfl rfl rfl (r_move rfl) ?_
             refine F.qg rfl rfl rfl rfl rfl rfl g199 (r_move rfl) ?_
             refine F.qg rfl rfl rfl rfl rfl rfl g199 (r_move rfl) ?_
             refine F.qg rfl rfl rfl rfl rfl rfl g199 (r_neqB Try.underlying4 rfl rfl) ?_
             refine F.qn rfl rfl rfl rfl (r_pickf rfl rfl g199) ?_
             refine F.qn rfl rfl rfl rfl (r_move rfl) ?_
             iterate 3 refine F.sk rfl rfl rfl (wf rfl rfl rfl g204) ?_
             refine F.qn rfl rfl rfl rfl (r_pick rfl rfl g204) ?_
             refine F.qn rfl rfl rfl rfl (r_move rfl) ?_
             iterate 4 refine F.sk rfl rfl rfl (wf rfl rfl rfl rfl) ?_
             refine F.qn rfl rfl rfl rfl (r_pick rfl rfl rfl) ?_
             refine F.qn rfl rfl rfl rfl (r_move rfl) ?_
             iterate 3 refine F.sk rfl rfl rfl (wf rfl rfl rfl rfl) ?_
             refine F.sk rfl rfl rfl (wanted_undef rfl rfl rfl) ?_
             refine F.sk rfl rfl rfl (wf rfl rfl rfl rfl) ?_
             refine F.sk rfl rfl rfl (wf rfl rfl rfl rfl) ?_
             refine F.qn rfl rfl rfl rfl (r_pick rfl rfl rfl) ?_
             refine F.qn rfl rfl rfl rfl (r_move rfl) ?_
             iterate 3 refine F.sk rfl rfl rfl (wf rfl rfl rfl rfl) ?_
             refine F.qn rfl rfl rfl rfl (r_pick rfl rfl rfl) ?_
             refine F.qn rfl rfl rfl rfl (r_move rfl) ?_
             iterate 3 refine F.sk rfl rfl rfl (wf rfl rfl rfl rfl) ?_
             refine F.sk rfl rfl rfl (wanted_undef rfl rfl rfl) ?_
             refine F.sk rfl rfl rfl (wf rfl rfl rfl rfl) ?_
             refine F.sk rfl rfl rfl (wf rfl rfl rfl rfl) ?_
             refine F.qn rfl rfl rfl rfl (r_pick rfl rfl rfl) ?_
             refine F.qn rfl rfl rfl rfl (r_move rfl) ?_
             iterate 3 refine F.sk rfl rfl rfl (wf rfl rfl rfl rfl) ?_
             refine F.qn rfl rfl rfl rfl (r_pick rfl rfl rfl) ?_
             refine F.nil ?_
             cases hE_1
             refine Nrm.only [3, 4, 5, 6, 7, 10, 14, 18, 19, 26, 27, 28, 29, 30, 31, 32, 240] rfl ?_
             refine Nrm.pick [2, 12, 15, 8, 3, 4, 5, 1, 16, 17, 18, 13, 14] rfl rfl ?_
             exact hj_1 _ _ ⟨rfl, rfl⟩
            ·replace hE_1 := if_ff g204 hE_1
             rcases Bool.eq_false_or_eq_true (t142_2 != t151_2) with g209 | g209
             ·replace hE_1 := if_tt g209 hE_1
              refine Tri.reg (l := List.range 87) rfl ?_
              refine F.qn rfl rfl rfl rfl (r_move rfl) ?_
              refine F.qn rfl rfl rfl rfl (r_move rfl) ?_
              refine F.qn rfl rfl rfl rfl (r_neqB Try.underlying4 rfl rfl) ?_
              refine F.qn rfl rfl rfl rfl (r_move rfl) ?_
              refine F.qg rfl rfl rfl rfl rfl rfl g157 (r_loadA ta27 ti27 rfl rfl (fun w hw => (box_cells (i := 12) rfl w hw))) ?_
              refine F.qg rfl rfl rfl rfl rfl rfl g157 (r_loadA ta27 ti27 rfl rfl (fun w hw => (box_cells (i := 9) rfl w hw))) ?_
              refine F.qc rfl rfl rfl (wg rfl rfl rfl g157) (q_callF (xs := _) rfl ok44 rfl rfl (fun w hw => laws_vMaze.ok h160 w ((rd_sl (i := 13) rfl) w hw) ((rd_sl (i := 14) rfl) w hw) ((rd_sl (i := 10) rfl) w hw) ((rd_sl (i := 11) rfl) w hw))) ?_
              refine F.qg rfl rfl rfl rfl rfl rfl g157 (r_not rfl) ?_
              refine F.qn rfl rfl rfl rfl (r_pickf rfl rfl g157) ?_
              refine F.qn rfl rfl rfl rfl (r_move rfl) ?_
              refine F.qg rfl rfl rfl rfl rfl rfl g163 (r_move rfl) ?_
              refine F.qg rfl rfl rfl rfl rfl rfl g163 (r_move rfl) ?_
              refine F.qg rfl rfl rfl rfl rfl rfl g163 (r_neqB Try.underlying4 rfl rfl) ?_
              refine F.qn rfl rfl rfl rfl (r_pickf rfl rfl g163) ?_
              refine F.qn rfl rfl rfl rfl (r_move rfl) ?_
              refine F.qg rfl rfl rfl rfl rfl rfl g168 (r_move rfl) ?_
              refine F.qg rfl rfl rfl rfl rfl rfl g168 (r_move rfl) ?_
              refine F.qg rfl rfl rfl rfl rfl rfl g168 (r_neqB Try.underlying4 rfl rfl) ?_
              refine F.qn rfl rfl rfl rfl (r_pickf rfl rfl g168) ?_
              refine F.qn rfl rfl rfl rfl (r_move rfl) ?_
              refine F.qg rfl rfl rfl rfl rfl rfl g173 (r_move rfl) ?_
              refine F.qg rfl rfl rfl rfl rfl rfl g173 (r_move rfl) ?_
              refine F.qg rfl rfl rfl rfl rfl rfl g173 (r_neq rfl rfl) ?_
              refine F.qn rfl rfl rfl rfl (r_pickf rfl rfl g173) ?_
              refine F.qn rfl rfl rfl rfl (r_move rfl) ?_
              refine F.qg rfl rfl rfl rfl rfl rfl g178 (r_move rfl) ?_
              refine F.qg rfl rfl rfl rfl rfl rfl g178 (r_move rfl) ?_
              refine F.qg rfl rfl rfl rfl rfl rfl g178 (r_neqB Try.underlying4 rfl rfl) ?_
              refine F.qn rfl rfl rfl rfl (r_pickf rfl rfl g178) ?_
              refine F.qn rfl rfl rfl rfl (r_move rfl) ?_
              refine F.qg rfl rfl rfl rfl rfl rfl g183 (r_move rfl) ?_
              refine F.qg rfl rfl rfl rfl rfl rfl g183 (r_move rfl) ?_
              refine F.qg rfl rfl rfl rfl rfl rfl g183 (r_neqB Try.underlying4 rfl rfl) ?_
              refine F.qn rfl rfl rfl rfl (r_pickf rfl rfl g183) ?_
              refine F.qn rfl rfl rfl rfl (r_move rfl) ?_
              refine F.qg rfl rfl rfl rfl rfl rfl g188 (r_move rfl) ?_
              refine F.qg rfl rfl rfl rfl rfl rfl g188 (r_move rfl) ?_
              refine F.qc rfl rfl rfl (wg rfl rfl rfl g188) (q_callF (xs := _) rfl ok45 rfl rfl (fun w hw => laws_vPairs.ok h191 w ((rd_sl (i := 8) rfl) w hw) ((rd_sl (i := 7) rfl) w hw))) ?_
              refine F.qg rfl rfl rfl rfl rfl rfl g188 (r_not rfl) ?_
              refine F.qn rfl rfl rfl rfl (r_pickf rfl rfl g188) ?_
              refine F.qn rfl rfl rfl rfl (r_move rfl) ?_
              refine F.qg rfl rfl rfl rfl rfl rfl g194 (r_move rfl) ?_
              refine F.qg rfl rfl rfl rfl rfl rfl g194 (r_move rfl) ?_
              refine F.qg rfl rfl rfl rfl rfl rfl g194 (r_neqB Try.underlying4 rfl rfl) ?_
              refine F.qn rfl rfl rfl rfl (r_pickf rfl rfl g194) ?_
              refine F.qn rfl rfl rfl rfl (r_move rfl) ?_
              refine F.qg rfl rfl rfl rfl rfl rfl g199 (r_move rfl) ?_
              refine F.qg rfl rfl rfl rfl rfl rfl g199 (r_move rfl) ?_
              refine F.qg rfl rfl rfl rfl rfl rfl g199 (r_neqB Try.underlying4 rfl rfl) ?_
              refine F.qn rfl rfl rfl rfl (r_pickf rfl rfl g199) ?_
              refine F.qn rfl rfl rfl rfl (r_move rfl) ?_
              refine F.qg rfl rfl rfl rfl rfl rfl g204 (r_move rfl) ?_
              refine F.qg rfl rfl rfl rfl rfl rfl g204 (r_move rfl) ?_
              refine F.qg rfl rfl rfl rfl rfl rfl g204 (r_neqB Try.underlying4 rfl rfl) ?_
              refine F.qn rfl rfl rfl rfl (r_pickf rfl rfl g204) ?_
              refine F.qn rfl rfl rfl rfl (r_move rfl) ?_
              iterate 4 refine F.sk rfl rfl rfl (wf rfl rfl rfl g209) ?_
              refine F.qn rfl rfl rfl rfl (r_pick rfl rfl g209) ?_
              refine F.qn rfl rfl rfl rfl (r_move rfl) ?_
              iterate 3 refine F.sk rfl rfl rfl (wf rfl rfl rfl rfl) ?_
              refine F.sk rfl rfl rfl (wanted_undef rfl rfl rfl) ?_
              refine F.sk rfl rfl rfl (wf rfl rfl rfl rfl) ?_
              refine F.sk rfl rfl rfl (wf rfl rfl rfl rfl) ?_
              refine F.qn rfl rfl rfl rfl (r_pick rfl rfl rfl) ?_
              refine F.qn rfl rfl rfl rfl (r_move rfl) ?_
              iterate 3 refine F.sk rfl rfl rfl (wf rfl rfl rfl rfl) ?_
              refine F.qn rfl rfl rfl rfl (r_pick rfl rfl rfl) ?_
              refine F.qn rfl rfl rfl rfl (r_move rfl) ?_
              iterate 3 refine F.sk rfl rfl rfl (wf rfl rfl rfl rfl) ?_
              refine F.sk rfl rfl rfl (wanted_undef rfl rfl rfl) ?_
              refine F.sk rfl rfl rfl (wf rfl rfl rfl rfl) ?_
              refine F.sk rfl rfl rfl (wf rfl rfl rfl rfl) ?_
              refine F.qn rfl rfl rfl rfl (r_pick rfl rfl rfl) ?_
              refine F.qn rfl rfl rfl rfl (r_move rfl) ?_
              iterate 3 refine F.sk rfl rfl rfl (wf rfl rfl rfl rfl) ?_
              refine F.qn rfl rfl rfl rfl (r_pick rfl rfl rfl) ?_
              refine F.nil ?_
              cases hE_1
              refine Nrm.only [3, 4, 5, 6, 7, 10, 14, 18, 19, 26, 27, 28, 29, 30, 31, 32, 240] rfl ?_
              refine Nrm.pick [2, 12, 15, 8, 3, 4, 5, 1, 16, 17, 18, 13, 14] rfl rfl ?_
              exact hj_1 _ _ ⟨rfl, rfl⟩
             ·replace hE_1 := if_ff g209 hE_1
              obtain ⟨t212, h212, hE_1⟩ := bind_some hE_1
              rcases Bool.eq_false_or_eq_true (!t212) with g215 | g215
              ·replace hE_1 := if_tt g215 hE_1
               refine Tri.reg (l := List.range 87) rfl ?_
               refine F.qn rfl rfl rfl rfl (r_move rfl) ?_
               refine F.qn rfl rfl rfl rfl (r_move rfl) ?_
               refine F.qn rfl rfl rfl rfl (r_neqB Try.underlying4 rfl rfl) ?_
               refine F.qn rfl rfl rfl rfl (r_move rfl) ?_
               refine F.qg rfl rfl rfl rfl rfl rfl g157 (r_loadA ta27 ti27 rfl rfl (fun w hw => (box_cells (i := 12) rfl w hw))) ?_
               refine F.qg rfl rfl rfl rfl rfl rfl g157 (r_loadA ta27 ti27 rfl rfl (fun w hw => (box_cells (i := 9) rfl w hw))) ?_
               refine F.qc rfl rfl rfl (wg rfl rfl rfl g157) (q_callF (xs := _) rfl ok44 rfl rfl (fun w hw => laws_vMaze.ok h160 w ((rd_sl (i := 13) rfl) w hw) ((rd_sl (i := 14) rfl) w hw) ((rd_sl (i := 10) rfl) w hw) ((rd_sl (i := 11) rfl) w hw))) ?_
               refine F.qg rfl rfl rfl rfl rfl rfl g157 (r_not rfl) ?_
               refine F.qn rfl rfl rfl rfl (r_pickf rfl rfl g157) ?_
               refine F.qn rfl rfl rfl rfl (r_move rfl) ?_
               refine F.qg rfl rfl rfl rfl rfl rfl g163 (r_move rfl) ?_
               refine F.qg rfl rfl rfl rfl rfl rfl g163 (r_move rfl) ?_
               refine F.qg rfl rfl rfl rfl rfl rfl g163 (r_neqB Try.underlying4 rfl rfl) ?_
               refine F.qn rfl rfl rfl rfl (r_pickf rfl rfl g163) ?_
               refine F.qn rfl rfl rfl rfl (r_move rfl) ?_
               refine F.qg rfl rfl rfl rfl rfl rfl g168 (r_move rfl) ?_
               refine F.qg rfl rfl rfl rfl rfl rfl g168 (r_move rfl) ?_
               refine F.qg rfl rfl rfl rfl rfl rfl g168 (r_neqB Try.underlying4 rfl rfl) ?_
               refine F.qn rfl rfl rfl rfl (r_pickf rfl rfl g168) ?_
               refine F.qn rfl rfl rfl rfl (r_move rfl) ?_
               refine F.qg rfl rfl rfl rfl rfl rfl g173 (r_move rfl) ?_
               refine F.qg rfl rfl rfl rfl rfl rfl g173 (r_move rfl) ?_
               refine F.qg rfl rfl rfl rfl rfl rfl g173 (r_neq rfl rfl) ?_
               refine F.qn rfl rfl rfl rfl (r_pickf rfl rfl g173) ?_
               refine F.qn rfl rfl rfl rfl (r_move rfl) ?_
               refine F.qg rfl rfl rfl rfl rfl rfl g178 (r_move rfl) ?_
               refine F.qg rfl rfl rfl rfl rfl rfl g178 (r_move rfl) ?_
               refine F.qg rfl rfl rfl rfl rfl rfl g178 (r_neqB Try.underlying4 rfl rfl) ?_
               refine F.qn rfl rfl rfl rfl (r_pickf rfl rfl g178) ?_
               refine F.qn rfl rfl rfl rfl (r_move rfl) ?_
               refine F.qg rfl rfl rfl rfl rfl rfl g183 (r_move rfl) ?_
               refine F.qg rfl rfl rfl rfl rfl rfl g183 (r_move rfl) ?_
               refine F.qg rfl rfl rfl rfl rfl rfl g183 (r_neqB Try.underlying4 rfl rfl) ?_
               refine F.qn rfl rfl rfl rfl (r_pickf rfl rfl g183) ?_
               refine F.qn rfl rfl rfl rfl (r_move rfl) ?_
               refine F.qg rfl rfl rfl rfl rfl rfl g188 (r_move rfl) ?_
               refine F.qg rfl rfl rfl rfl rfl rfl g188 (r_move rfl) ?_
               refine F.qc rfl rfl rfl (wg rfl rfl rfl g188) (q_callF (xs := _) rfl ok45 rfl rfl (fun w hw => laws_vPairs.ok h191 w ((rd_sl (i := 8) rfl) w hw) ((rd_sl (i := 7) rfl) w hw))) ?_
               refine F.qg rfl rfl rfl rfl rfl rfl g188 (r_not rfl) ?_
               refine F.qn rfl rfl rfl rfl (r_pickf rfl rfl g188) ?_
               refine F.qn rfl rfl rfl rfl (r_move rfl) ?_
               refine F.qg rfl rfl rfl rfl rfl rfl g194 (r_move rfl) ?_
               refine F.qg rfl rfl rfl rfl rfl rfl g194 (r_move rfl) ?_
               refine F.qg rfl rfl rfl rfl rfl rfl g194 (r_neqB Try.underlying4 rfl rfl) ?_
               refine F.qn rfl rfl rfl rfl (r_pickf rfl rfl g194) ?_
               refine F.qn rfl rfl rfl rfl (r_move rfl) ?_
               refine F.qg rfl rfl rfl rfl rfl rfl g199 (r_move rfl) ?_
               refine F.qg rfl rfl rfl rfl rfl rfl g199 (r_move rfl) ?_
               refine F.qg rfl rfl rfl rfl rfl rfl g199 (r_neqB Try.underlying4 rfl rfl) ?_
               refine F.qn rfl rfl rfl rfl (r_pickf rfl rfl g199) ?_
               refine F.qn rfl rfl rfl rfl (r_move rfl) ?_
               refine F.qg rfl rfl rfl rfl rfl rfl g204 (r_move rfl) ?_
               refine F.qg rfl rfl rfl rfl rfl rfl g204 (r_move rfl) ?_
               refine F.qg rfl rfl rfl rfl rfl rfl g204 (r_neqB Try.underlying4 rfl rfl) ?_
               refine F.qn rfl rfl rfl rfl (r_pickf rfl rfl g204) ?_
               refine F.qn rfl rfl rfl rfl (r_move rfl) ?_
               refine F.qg rfl rfl rfl rfl rfl rfl g209 (r_move rfl) ?_
               refine F.qg rfl rfl rfl rfl rfl rfl g209 (r_move rfl) ?_
               refine F.qc rfl rfl rfl (wg rfl rfl rfl g209) (q_callF (xs := _) rfl ok20 rfl rfl (fun w hw => laws_vInts.ok h212 w ((rd_sl (i := 1) rfl) w hw) ((rd_sl (i := 0) rfl) w hw))) ?_
               refine F.qg rfl rfl rfl rfl rfl rfl g209 (r_not rfl) ?_
               refine F.qn rfl rfl rfl rfl (r_pickf rfl rfl g209) ?_
               refine F.qn rfl rfl rfl rfl (r_move rfl) ?_
               iterate 3 refine F.sk rfl rfl rfl (wf rfl rfl rfl g215) ?_
               refine F.sk rfl rfl rfl (wanted_undef rfl rfl rfl) ?_
               refine F.sk rfl rfl rfl (wf rfl rfl rfl g215) ?_
               refine F.sk rfl rfl rfl (wf rfl rfl rfl g215) ?_
               refine F.qn rfl rfl rfl rfl (r_pick rfl rfl g215) ?_
               refine F.qn rfl rfl rfl rfl (r_move rfl) ?_
               iterate 3 refine F.sk rfl rfl rfl (wf rfl rfl rfl rfl) ?_
               refine F.qn rfl rfl rfl rfl (r_pick rfl rfl rfl) ?_
               refine F.qn rfl rfl rfl rfl (r_move rfl) ?_
               iterate 3 refine F.sk rfl rfl rfl (wf rfl rfl rfl rfl) ?_
               refine F.sk rfl rfl rfl (wanted_undef rfl rfl rfl) ?_
               refine F.sk rfl rfl rfl (wf rfl rfl rfl rfl) ?_
               refine F.sk rfl rfl rfl (wf rfl rfl rfl rfl) ?_
               refine F.qn rfl rfl rfl rfl (r_pick rfl rfl rfl) ?_
               refine F.qn rfl rfl rfl rfl (r_move rfl) ?_
               iterate 3 refine F.sk rfl rfl rfl (wf rfl rfl rfl rfl) ?_
               refine F.qn rfl rfl rfl rfl (r_pick rfl rfl rfl) ?_
               refine F.nil ?_
               cases hE_1
               refine Nrm.only [3, 4, 5, 6, 7, 10, 14, 18, 19, 26, 27, 28, 29, 30, 31, 32, 240] rfl ?_
               refine Nrm.pick [2, 12, 15, 8, 3, 4, 5, 1, 16, 17, 18, 13, 14] rfl rfl ?_
               exact hj_1 _ _ ⟨rfl, rfl⟩
              ·replace hE_1 := if_ff g215 hE_1
               rcases Bool.eq_false_or_eq_true (t117_2) with g218 | g218
               ·replace hE_1 := if_tt g218 hE_1
                rcases Bool.eq_false_or_eq_true (t61_4 != t117_1) with g223 | g223
                ·replace hE_1 := if_tt g223 hE_1
                 refine Tri.reg (l := List.range 87) rfl ?_
                 refine F.qn rfl rfl rfl rfl (r_move rfl) ?_
                 refine F.qn rfl rfl rfl rfl (r_move rfl) ?_
                 refine F.qn rfl rfl rfl rfl (r_neqB Try.underlying4 rfl rfl) ?_
                 refine F.qn rfl rfl rfl rfl (r_move rfl) ?_
                 refine F.qg rfl rfl rfl rfl rfl rfl g157 (r_loadA ta27 ti27 rfl rfl (fun w hw => (box_cells (i := 12) rfl w hw))) ?_
                 refine F.qg rfl rfl rfl rfl rfl rfl g157 (r_loadA ta27 ti27 rfl rfl (fun w hw => (box_cells (i := 9) rfl w hw))) ?_
                 refine F.qc rfl rfl rfl (wg rfl rfl rfl g157) (q_callF (xs := _) rfl ok44 rfl rfl (fun w hw => laws_vMaze.ok h160 w ((rd_sl (i := 13) rfl) w hw) ((rd_sl (i := 14) rfl) w hw) ((rd_sl (i := 10) rfl) w hw) ((rd_sl (i := 11) rfl) w hw))) ?_
                 refine F.qg rfl rfl rfl rfl rfl rfl g157 (r_not rfl) ?_
                 refine F.qn rfl rfl rfl rfl (r_pickf rfl rfl g157) ?_
                 refine F.qn rfl rfl rfl rfl (r_move rfl) ?_
                 refine F.qg rfl rfl rfl rfl rfl rfl g163 (r_move rfl) ?_
                 refine F.qg rfl rfl rfl rfl rfl rfl g163 (r_move rfl) ?_
                 refine F.qg rfl rfl rfl rfl rfl rfl g163 (r_neqB Try.underlying4 rfl rfl) ?_
                 refine F.qn rfl rfl rfl rfl (r_pickf rfl rfl g163) ?_
                 refine F.qn rfl rfl rfl rfl (r_move rfl) ?_
                 refine F.qg rfl rfl rfl rfl rfl rfl g168 (r_move rfl) ?_
                 refine F.qg rfl rfl rfl rfl rfl rfl g168 (r_move rfl) ?_
                 refine F.qg rfl rfl rfl rfl rfl rfl g168 (r_neqB Try.underlying4 rfl rfl) ?_
                 refine F.qn rfl rfl rfl rfl (r_pickf rfl rfl g168) ?_
                 refine F.qn rfl rfl rfl rfl (r_move rfl) ?_
                 refine F.qg rfl rfl rfl rfl rfl rfl g173 (r_move rfl) ?_
                 refine F.qg rfl rfl rfl rfl rfl rfl g173 (r_move rfl) ?_
                 refine F.qg rfl rfl rfl rfl rfl rfl g173 (r_neq rfl rfl) ?_
                 refine F.qn rfl rfl rfl rfl (r_pickf rfl rfl g173) ?_
                 refine F.qn rfl rfl rfl rfl (r_move rfl) ?_
                 refine F.qg rfl rfl rfl rfl rfl rfl g178 (r_move rfl) ?_
                 refine F.qg rfl rfl rfl rfl rfl rfl g178 (r_move rfl) ?_
                 refine F.qg rfl rfl rfl rfl rfl rfl g178 (r_neqB Try.underlying4 rfl rfl) ?_
                 refine F.qn rfl rfl rfl rfl (r_pickf rfl rfl g178) ?_
                 refine F.qn rfl rfl rfl rfl (r_move rfl) ?_
                 refine F.qg rfl rfl rfl rfl rfl rfl g183 (r_move rfl) ?_
                 refine F.qg rfl rfl rfl rfl rfl rfl g183 (r_move rfl) ?_
                 refine F.qg rfl rfl rfl rfl rfl rfl g183 (r_neqB Try.underlying4 rfl rfl) ?_
                 refine F.qn rfl rfl rfl rfl (r_pickf rfl rfl g183) ?_
                 refine F.qn rfl rfl rfl rfl (r_move rfl) ?_
                 refine F.qg rfl rfl rfl rfl rfl rfl g188 (r_move rfl) ?_
                 refine F.qg rfl rfl rfl rfl rfl rfl g188 (r_move rfl) ?_
                 refine F.qc rfl rfl rfl (wg rfl rfl rfl g188) (q_callF (xs := _) rfl ok45 rfl rfl (fun w hw => laws_vPairs.ok h191 w ((rd_sl (i := 8) rfl) w hw) ((rd_sl (i := 7) rfl) w hw))) ?_
                 refine F.qg rfl rfl rfl rfl rfl rfl g188 (r_not rfl) ?_
                 refine F.qn rfl rfl rfl rfl (r_pickf rfl rfl g188) ?_
                 refine F.qn rfl rfl rfl rfl (r_move rfl) ?_
                 refine F.qg rfl rfl rfl rfl rfl rfl g194 (r_move rfl) ?_
                 refine F.qg rfl rfl rfl rfl rfl rfl g194 (r_move rfl) ?_
                 refine F.qg rfl rfl rfl rfl rfl rfl g194 (r_neqB Try.underlying4 rfl rfl) ?_
                 refine F.qn rfl rfl rfl rfl (r_pickf rfl rfl g194) ?_
                 refine F.qn rfl rfl rfl rfl (r_move rfl) ?_
                 refine F.qg rfl rfl rfl rfl rfl rfl g199 (r_move rfl) ?_
                 refine F.qg rfl rfl rfl rfl rfl rfl g199 (r_move rfl) ?_
                 refine F.qg rfl rfl rfl rfl rfl rfl g199 (r_neqB Try.underlying4 rfl rfl) ?_
                 refine F.qn rfl rfl rfl rfl (r_pickf rfl rfl g199) ?_
                 refine F.qn rfl rfl rfl rfl (r_move rfl) ?_
                 refine F.qg rfl rfl rfl rfl rfl rfl g204 (r_move rfl) ?_
                 refine F.qg rfl rfl rfl rfl rfl rfl g204 (r_move rfl) ?_
                 refine F.qg rfl rfl rfl rfl rfl rfl g204 (r_neqB Try.underlying4 rfl rfl) ?_
                 refine F.qn rfl rfl rfl rfl (r_pickf rfl rfl g204) ?_
                 refine F.qn rfl rfl rfl rfl (r_move rfl) ?_
                 refine F.qg rfl rfl rfl rfl rfl rfl g209 (r_move rfl) ?_
                 refine F.qg rfl rfl rfl rfl rfl rfl g209 (r_move rfl) ?_
                 refine F.qc rfl rfl rfl (wg rfl rfl rfl g209) (q_callF (xs := _) rfl ok20 rfl rfl (fun w hw => laws_vInts.ok h212 w ((rd_sl (i := 1) rfl) w hw) ((rd_sl (i := 0) rfl) w hw))) ?_
                 refine F.qg rfl rfl rfl rfl rfl rfl g209 (r_not rfl) ?_
                 refine F.qn rfl rfl rfl rfl (r_pickf rfl rfl g209) ?_
                 refine F.qn rfl rfl rfl rfl (r_move rfl) ?_
                 iterate 3 refine F.qg rfl rfl rfl rfl rfl rfl g215 (r_move rfl) ?_
                 refine F.qg rfl rfl rfl rfl rfl rfl g218 (r_move rfl) ?_
                 refine F.qg rfl rfl rfl rfl rfl rfl g215 (r_pick rfl rfl g218) ?_
                 refine F.qg rfl rfl rfl rfl rfl rfl g215 (r_neqB Try.underlying4 rfl rfl) ?_
                 refine F.qn rfl rfl rfl rfl (r_pickf rfl rfl g215) ?_
                 refine F.qn rfl rfl rfl rfl (r_move rfl) ?_
                 iterate 3 refine F.sk rfl rfl rfl (wf rfl rfl rfl g223) ?_
                 refine F.qn rfl rfl rfl rfl (r_pick rfl rfl g223) ?_
                 refine F.qn rfl rfl rfl rfl (r_move rfl) ?_
                 iterate 3 refine F.sk rfl rfl rfl (wf rfl rfl rfl rfl) ?_
                 refine F.sk rfl rfl rfl (wanted_undef rfl rfl rfl) ?_
                 refine F.sk rfl rfl rfl (wf rfl rfl rfl rfl) ?_
                 refine F.sk rfl rfl rfl (wf rfl rfl rfl rfl) ?_
                 refine F.qn rfl rfl rfl rfl (r_pick rfl rfl rfl) ?_
                 refine F.qn rfl rfl rfl rfl (r_move rfl) ?_
                 iterate 3 refine F.sk rfl rfl rfl (wf rfl rfl rfl rfl) ?_
                 refine F.qn rfl rfl rfl rfl (r_pick rfl rfl rfl) ?_
                 refine F.nil ?_
                 cases hE_1
                 refine Nrm.only [3, 4, 5, 6, 7, 10, 14, 18, 19, 26, 27, 28, 29, 30, 31, 32, 240] rfl ?_
                 refine Nrm.pick [2, 12, 15, 8, 3, 4, 5, 1, 16, 17, 18, 13, 14] rfl rfl ?_
                 exact hj_1 _ _ ⟨rfl, rfl⟩
                ·replace hE_1 := if_ff g223 hE_1
                 rcases Bool.eq_false_or_eq_true (t61_4 != t75_2) with g228 | g228
                 ·replace hE_1 := if_tt g228 hE_1
                  refine Tri.reg (l := List.range 87) rfl ?_
                  refine F.qn rfl rfl rfl rfl (r_move rfl) ?_
                  refine F.qn rfl rfl rfl rfl (r_move rfl) ?_
                  refine F.qn rfl rfl rfl rfl (r_neqB Try.underlying4 rfl rfl) ?_
                  refine F.qn rfl rfl rfl rfl (r_move rfl) ?_
                  refine F.qg rfl rfl rfl rfl rfl rfl g157 (r_loadA ta27 ti27 rfl rfl (fun w hw => (box_cells (i := 12) rfl w hw))) ?_
                  refine F.qg rfl rfl rfl rfl rfl rfl g157 (r_loadA ta27 ti27 rfl rfl (fun w hw => (box_cells (i := 9) rfl w hw))) ?_
                  refine F.qc rfl rfl rfl (wg rfl rfl rfl g157) (q_callF (xs := _) rfl ok44 rfl rfl (fun w hw => laws_vMaze.ok h160 w ((rd_sl (i := 13) rfl) w hw) ((rd_sl (i := 14) rfl) w hw) ((rd_sl (i := 10) rfl) w hw) ((rd_sl (i := 11) rfl) w hw))) ?_
                  refine F.qg rfl rfl rfl rfl rfl rfl g157 (r_not rfl) ?_
                  refine F.qn rfl rfl rfl rfl (r_pickf rfl rfl g157) ?_
                  refine F.qn rfl rfl rfl rfl (r_move rfl) ?_
                  refine F.qg rfl rfl rfl rfl rfl rfl g163 (r_move rfl) ?_
                  refine F.qg rfl rfl rfl rfl rfl rfl g163 (r_move rfl) ?_
                  refine F.qg rfl rfl rfl rfl rfl rfl g163 (r_neqB Try.underlying4 rfl rfl) ?_
                  refine F.qn rfl rfl rfl rfl (r_pickf rfl rfl g163) ?_
                  refine F.qn rfl rfl rfl rfl (r_move rfl) ?_
                  refine F.qg rfl rfl rfl rfl rfl rfl g168 (r_move rfl) ?_
                  refine F.qg rfl rfl rfl rfl rfl rfl g168 (r_move rfl) ?_
                  refine F.qg rfl rfl rfl rfl rfl rfl g168 (r_neqB Try.underlying4 rfl rfl) ?_
                  refine F.qn rfl rfl rfl rfl (r_pickf rfl rfl g168) ?_
                  refine F.qn rfl rfl rfl rfl (r_move rfl) ?_
                  refine F.qg rfl rfl rfl rfl rfl rfl g173 (r_move rfl) ?_
                  refine F.qg rfl rfl rfl rfl rfl rfl g173 (r_move rfl) ?_
                  refine F.qg rfl rfl rfl rfl rfl rfl g173 (r_neq rfl rfl) ?_
                  refine F.qn rfl rfl rfl rfl (r_pickf rfl rfl g173) ?_
                  refine F.qn rfl rfl rfl rfl (r_move rfl) ?_
                  refine F.qg rfl rfl rfl rfl rfl rfl g178 (r_move rfl) ?_
                  refine F.qg rfl rfl rfl rfl rfl rfl g178 (r_move rfl) ?_
                  refine F.qg rfl rfl rfl rfl rfl rfl g178 (r_neqB Try.underlying4 rfl rfl) ?_
                  refine F.qn rfl rfl rfl rfl (r_pickf rfl rfl g178) ?_
                  refine F.qn rfl rfl rfl rfl (r_move rfl) ?_
                  refine F.qg rfl rfl rfl rfl rfl rfl g183 (r_move rfl) ?_
                  refine F.qg rfl rfl rfl rfl rfl rfl g183 (r_move rfl) ?_
                  refine F.qg rfl rfl rfl rfl rfl rfl g183 (r_neqB Try.underlying4 rfl rfl) ?_
                  refine F.qn rfl rfl rfl rfl (r_pickf rfl rfl g183) ?_
                  refine F.qn rfl rfl rfl rfl (r_move rfl) ?_
                  refine F.qg rfl rfl rfl rfl rfl rfl g188 (r_move rfl) ?_
                  refine F.qg rfl rfl rfl rfl rfl rfl g188 (r_move rfl) ?_
                  refine F.qc rfl rfl rfl (wg rfl rfl rfl g188) (q_callF (xs := _) rfl ok45 rfl rfl (fun w hw => laws_vPairs.ok h191 w ((rd_sl (i := 8) rfl) w hw) ((rd_sl (i := 7) rfl) w hw))) ?_
                  refine F.qg rfl rfl rfl rfl rfl rfl g188 (r_not rfl) ?_
                  refine F.qn rfl rfl rfl rfl (r_pickf rfl rfl g188) ?_
                  refine F.qn rfl rfl rfl rfl (r_move rfl) ?_
                  refine F.qg rfl rfl rfl rfl rfl rfl g194 (r_move rfl) ?_
                  refine F.qg rfl rfl rfl rfl rfl rfl g194 (r_move rfl) ?_
                  refine F.qg rfl rfl rfl rfl rfl rfl g194 (r_neqB Try.underlying4 rfl rfl) ?_
                  refine F.qn rfl rfl rfl rfl (r_pickf rfl rfl g194) ?_
                  refine F.qn rfl rfl rfl rfl (r_move rfl) ?_
                  refine F.qg rfl rfl rfl rfl rfl rfl g199 (r_move rfl) ?_
                  refine F.qg rfl rfl rfl rfl rfl rfl g199 (r_move rfl) ?_
                  refine F.qg rfl rfl rfl rfl rfl rfl g199 (r_neqB Try.underlying4 rfl rfl) ?_
                  refine F.qn rfl rfl rfl rfl (r_pickf rfl rfl g199) ?_
                  refine F.qn rfl rfl rfl rfl (r_move rfl) ?_
                  refine F.qg rfl rfl rfl rfl rfl rfl g204 (r_move rfl) ?_
                  refine F.qg rfl rfl rfl rfl rfl rfl g204 (r_move rfl) ?_
                  refine F.qg rfl rfl rfl rfl rfl rfl g204 (r_neqB Try.underlying4 rfl rfl) ?_
                  refine F.qn rfl rfl rfl rfl (r_pickf rfl rfl g204) ?_
                  refine F.qn rfl rfl rfl rfl (r_move rfl) ?_
                  refine F.qg rfl rfl rfl rfl rfl rfl g209 (r_move rfl) ?_
                  refine F.qg rfl rfl rfl rfl rfl rfl g209 (r_move rfl) ?_
                  refine F.qc rfl rfl rfl (wg rfl rfl rfl g209) (q_callF (xs := _) rfl ok20 rfl rfl (fun w hw => laws_vInts.ok h212 w ((rd_sl (i := 1) rfl) w hw) ((rd_sl (i := 0) rfl) w hw))) ?_
                  refine F.qg rfl rfl rfl rfl rfl rfl g209 (r_not rfl) ?_
                  refine F.qn rfl rfl rfl rfl (r_pickf rfl rfl g209) ?_
                  refine F.qn rfl rfl rfl rfl (r_move rfl) ?_
                  iterate 3 refine F.qg rfl rfl rfl rfl rfl rfl g215 (r_move rfl) ?_
                  refine F.qg rfl rfl rfl rfl rfl rfl g218 (r_move rfl) ?_
                  refine F.qg rfl rfl rfl rfl rfl rfl g215 (r_pick rfl rfl g218) ?_
                  refine F.qg rfl rfl rfl rfl rfl rfl g215 (r_neqB Try.underlying4 rfl rfl) ?_
                  refine F.qn rfl rfl rfl rfl (r_pickf rfl rfl g215) ?_
                  refine F.qn rfl rfl rfl rfl (r_move rfl) ?_
                  refine F.qg rfl rfl rfl rfl rfl rfl g223 (r_move rfl) ?_
                  refine F.qg rfl rfl rfl rfl rfl rfl g223 (r_move rfl) ?_
                  refine F.qg rfl rfl rfl rfl rfl rfl g223 (r_neqB Try.underlying4 rfl rfl) ?_
                  refine F.qn rfl rfl rfl rfl (r_pickf rfl rfl g223) ?_
                  refine F.qn rfl rfl rfl rfl (r_move rfl) ?_
                  iterate 3 refine F.sk rfl rfl rfl (wf rfl rfl rfl g228) ?_
                  refine F.sk rfl rfl rfl (wanted_undef rfl rfl rfl) ?_
                  refine F.sk rfl rfl rfl (wf rfl rfl rfl g228) ?_
                  refine F.sk rfl rfl rfl (wf rfl rfl rfl g228) ?_
                  refine F.qn rfl rfl rfl rfl (r_pick rfl rfl g228) ?_
                  refine F.qn rfl rfl rfl rfl (r_move rfl) ?_
                  iterate 3 refine F.sk rfl rfl rfl (wf rfl rfl rfl rfl) ?_
                  refine F.qn rfl rfl rfl rfl (r_pick rfl rfl rfl) ?_
                  refine F.nil ?_
                  cases hE_1
                  refine Nrm.only [3, 4, 5, 6, 7, 10, 14, 18, 19, 26, 27, 28, 29, 30, 31, 32, 240] rfl ?_
                  refine Nrm.pick [2, 12, 15, 8, 3, 4, 5, 1, 16, 17, 18, 13, 14] rfl rfl ?_
                  exact hj_1 _ _ ⟨rfl, rfl⟩
                 ·replace hE_1 := if_ff g228 hE_1
                  rcases Bool.eq_false_or_eq_true (t75_2) with g231 | g231
                  ·replace hE_1 := if_tt g231 hE_1
                   rcases Bool.eq_false_or_eq_true (t89_2 != t75_1) with g236 | g236
                   ·replace hE_1 := if_tt g236 hE_1
                    refine Tri.reg (l := List.range 87) rfl ?_
                    refine F.qn rfl rfl rfl rfl (r_move rfl) ?_
                    refine F.qn rfl rfl rfl rfl (r_move rfl) ?_
                    refine F.qn rfl rfl rfl rfl (r_neqB Try.underlying4 rfl rfl) ?_
                    refine F.qn rfl rfl rfl rfl (r_move rfl) ?_
                    refine F.qg rfl rfl rfl rfl rfl rfl g157 (r_loadA ta27 ti27 rfl rfl (fun w hw => (box_cells (i := 12) rfl w hw))) ?_
                    refine F.qg rfl rfl rfl rfl rfl rfl g157 (r_loadA ta27 ti27 rfl rfl (fun w hw => (box_cells (i := 9) rfl w hw))) ?_
                    refine F.qc rfl rfl rfl (wg rfl rfl rfl g157) (q_callF (xs := _) rfl ok44 rfl rfl (fun w hw => laws_vMaze.ok h160 w ((rd_sl (i := 13) rfl) w hw) ((rd_sl (i := 14) rfl) w hw) ((rd_sl (i := 10) rfl) w hw) ((rd_sl (i := 11) rfl) w hw))) ?_
                    refine F.qg rfl rfl rfl rfl rfl rfl g157 (r_not rfl) ?_
                    refine F.qn rfl rfl rfl rfl (r_pickf rfl rfl g157) ?_
                    refine F.qn rfl rfl rfl rfl (r_move rfl) ?_
                    refine F.qg rfl rfl rfl rfl rfl rfl g163 (r_move rfl) ?_
                    refine F.qg rfl rfl rfl rfl rfl rfl g163 (r_move rfl) ?_
                    refine F.qg rfl rfl rfl rfl rfl rfl g163 (r_neqB Try.underlying4 rfl rfl) ?_
                    refine F.qn rfl rfl rfl rfl (r_pickf rfl rfl g163) ?_
                    refine F.qn rfl rfl rfl rfl (r_move rfl) ?_
                    refine F.qg rfl rfl rfl rfl rfl rfl g168 (r_move rfl) ?_
                    refine F.qg rfl rfl rfl rfl rfl rfl g168 (r_move rfl) ?_
                    refine F.qg rfl rfl rfl rfl rfl rfl g168 (r_neqB Try.underlying4 rfl rfl) ?_
                    refine F.qn rfl rfl rfl rfl (r_pickf rfl rfl g168) ?_
                    refine F.qn rfl rfl rfl rfl (r_move rfl) ?_
                    refine F.qg rfl rfl rfl rfl rfl rfl g173 (r_move rfl) ?_
                    refine F.qg rfl rfl rfl rfl rfl rfl g173 (r_move rfl) ?_
                    refine F.qg rfl rfl rfl rfl rfl rfl g173 (r_neq rfl rfl) ?_
                    refine F.qn rfl rfl rfl rfl (r_pickf rfl rfl g173) ?_
                    refine F.qn rfl rfl rfl rfl (r_move rfl) ?_
                    refine F.qg rfl rfl rfl rfl rfl rfl g178 (r_move rfl) ?_
                    refine F.qg rfl rfl rfl rfl rfl rfl g178 (r_move rfl) ?_
                    refine F.qg rfl rfl rfl rfl rfl rfl g178 (r_neqB Try.underlying4 rfl rfl) ?_
                    refine F.qn rfl rfl rfl rfl (r_pickf rfl rfl g178) ?_
                    refine F.qn rfl rfl rfl rfl (r_move rfl) ?_
                    refine F.qg rfl rfl rfl rfl rfl rfl g183 (r_move rfl) ?_
                    refine F.qg rfl rfl rfl rfl rfl rfl g183 (r_move rfl) ?_
                    refine F.qg rfl rfl rfl rfl rfl rfl g183 (r_neqB Try.underlying4 rfl rfl) ?_
                    refine F.qn rfl rfl rfl rfl (r_pickf rfl rfl g183) ?_
                    refine F.qn rfl rfl rfl rfl (r_move rfl) ?_
                    refine F.qg rfl rfl rfl rfl rfl rfl g188 (r_move rfl) ?_
                    refine F.qg rfl rfl rfl rfl rfl rfl g188 (r_move rfl) ?_
                    refine F.qc rfl rfl rfl (wg rfl rfl rfl g188) (q_callF (xs := _) rfl ok45 rfl rfl (fun w hw => laws_vPairs.ok h191 w ((rd_sl (i := 8) rfl) w hw) ((rd_sl (i := 7) rfl) w hw))) ?_
                    refine F.qg rfl rfl rfl rfl rfl rfl g188 (r_not rfl) ?_
                    refine F.qn rfl rfl rfl rfl (r_pickf rfl rfl g188) ?_
                    refine F.qn rfl rfl rfl rfl (r_move rfl) ?_
                    refine F.qg rfl rfl rfl rfl rfl rfl g194 (r_move rfl) ?_
                    refine F.qg rfl rfl rfl rfl rfl rfl g194 (r_move rfl) ?_
                    refine F.qg rfl rfl rfl rfl rfl rfl g194 (r_neqB Try.underlying4 rfl rfl) ?_
                    refine F.qn rfl rfl rfl rfl (r_pickf rfl rfl g194) ?_
                    refine F.qn rfl rfl rfl rfl (r_move rfl) ?_
                    refine F.qg rfl rfl rfl rfl rfl rfl g199 (r_move rfl) ?_
                    refine F.qg rfl rfl rfl rfl rfl rfl g199 (r_move rfl) ?_
                    refine F.qg rfl rfl rfl rfl rfl rfl g199 (r_neqB Try.underlying4 rfl rfl) ?_
                    refine F.qn rfl rfl rfl rfl (r_pickf rfl rfl g199) ?_
                    refine F.qn rfl rfl rfl rfl (r_move rfl) ?_
                    refine F.qg rfl rfl rfl rfl rfl rfl g204 (r_move rfl) ?_
                    refine F.qg rfl rfl rfl rfl rfl rfl g204 (r_move rfl) ?_
                    refine F.qg rfl rfl rfl rfl rfl rfl g204 (r_neqB Try.underlying4 rfl rfl) ?_
                    refine F.qn rfl rfl rfl rfl (r_pickf rfl rfl g204) ?_
                    refine F.qn rfl rfl rfl rfl (r_move rfl) ?_
                    refine F.qg rfl rfl rfl rfl rfl rfl g209 (r_move rfl) ?_
                    refine F.qg rfl rfl rfl rfl rfl rfl g209 (r_move rfl) ?_
                    refine F.qc rfl rfl rfl (wg rfl rfl rfl g209) (q_callF (xs := _) rfl ok20 rfl rfl (fun w hw => laws_vInts.ok h212 w ((rd_sl (i := 1) rfl) w hw) ((rd_sl (i := 0) rfl) w hw))) ?_
                    refine F.qg rfl rfl rfl rfl rfl rfl g209 (r_not rfl) ?_
                    refine F.qn rfl rfl rfl rfl (r_pickf rfl rfl g209) ?_
                    refine F.qn rfl rfl rfl rfl (r_move rfl) ?_
                    iterate 3 refine F.qg rfl rfl rfl rfl rfl rfl g215 (r_move rfl) ?_
                    refine F.qg rfl rfl rfl rfl rfl rfl g218 (r_move rfl) ?_
                    refine F.qg rfl rfl rfl rfl rfl rfl g215 (r_pick rfl rfl g218) ?_
                    refine F.qg rfl rfl rfl rfl rfl rfl g215 (r_neqB Try.underlying4 rfl rfl) ?_
                    refine F.qn rfl rfl rfl rfl (r_pickf rfl rfl g215) ?_
                    refine F.qn rfl rfl rfl rfl (r_move rfl) ?_
                    refine F.qg rfl rfl rfl rfl rfl rfl g223 (r_move rfl) ?_
                    refine F.qg rfl rfl rfl rfl rfl rfl g223 (r_move rfl) ?_
                    refine F.qg rfl rfl rfl rfl rfl rfl g223 (r_neqB Try.underlying4 rfl rfl) ?_
                    refine F.qn rfl rfl rfl rfl (r_pickf rfl rfl g223) ?_
                    refine F.qn rfl rfl rfl rfl (r_move rfl) ?_
                    iterate 3 refine F.qg rfl rfl rfl rfl rfl rfl g228 (r_move rfl) ?_
                    refine F.qg rfl rfl rfl rfl rfl rfl g231 (r_move rfl) ?_
                    refine F.qg rfl rfl rfl rfl rfl rfl g228 (r_pick rfl rfl g231) ?_
                    refine F.qg rfl rfl rfl rfl rfl rfl g228 (r_neqB Try.underlying4 rfl rfl) ?_
                    refine F.qn rfl rfl rfl rfl (r_pickf rfl rfl g228) ?_
                    refine F.qn rfl rfl rfl rfl (r_move rfl) ?_
                    iterate 3 refine F.sk rfl rfl rfl (wf rfl rfl rfl g236) ?_
                    refine F.qn rfl rfl rfl rfl (r_pick rfl rfl g236) ?_
                    refine F.nil ?_
                    cases hE_1
                    refine Nrm.only [3, 4, 5, 6, 7, 10, 14, 18, 19, 26, 27, 28, 29, 30, 31, 32, 240] rfl ?_
                    refine Nrm.pick [2, 12, 15, 8, 3, 4, 5, 1, 16, 17, 18, 13, 14] rfl rfl ?_
                    exact hj_1 _ _ ⟨rfl, rfl⟩
                   ·replace hE_1 := if_ff g236 hE_1
                    refine Tri.reg (l := List.range 87) rfl ?_
                    refine F.qn rfl rfl rfl rfl (r_move rfl) ?_
                    refine F.qn rfl rfl rfl rfl (r_move rfl) ?_
                    refine F.qn rfl rfl rfl rfl (r_neqB Try.underlying4 rfl rfl) ?_
                    refine F.qn rfl rfl rfl rfl (r_move rfl) ?_
                    refine F.qg rfl rfl rfl rfl rfl rfl g157 (r_loadA ta27 ti27 rfl rfl (fun w hw => (box_cells (i := 12) rfl w hw))) ?_
                    refine F.qg rfl rfl rfl rfl rfl rfl g157 (r_loadA ta27 ti27 rfl rfl (fun w hw => (box_cells (i := 9) rfl w hw))) ?_
                    refine F.qc rfl rfl rfl (wg rfl rfl rfl g157) (q_callF (xs := _) rfl ok44 rfl rfl (fun w hw => laws_vMaze.ok h160 w ((rd_sl (i := 13) rfl) w hw) ((rd_sl (i := 14) rfl) w hw) ((rd_sl (i := 10) rfl) w hw) ((rd_sl (i := 11) rfl) w hw))) ?_
                    refine F.qg rfl rfl rfl rfl rfl rfl g157 (r_not rfl) ?_
                    refine F.qn rfl rfl rfl rfl (r_pickf rfl rfl g157) ?_
                    refine F.qn rfl rfl rfl rfl (r_move rfl) ?_
                    refine F.qg rfl rfl rfl rfl rfl rfl g163 (r_move rfl) ?_
                    refine F.qg rfl rfl rfl rfl rfl rfl g163 (r_move rfl) ?_
                    refine F.qg rfl rfl rfl rfl rfl rfl g163 (r_neqB Try.underlying4 rfl rfl) ?_
                    refine F.qn rfl rfl rfl rfl (r_pickf rfl rfl g163) ?_
                    refine F.qn rfl rfl rfl rfl (r_move rfl) ?_
                    refine F.qg rfl rfl rfl rfl rfl rfl g168 (r_move rfl) ?_
                    refine F.qg rfl rfl rfl rfl rfl rfl g168 (r_move rfl) ?_
                    refine F.qg rfl rfl rfl rfl rfl rfl g168 (r_neqB Try.underlying4 rfl rfl) ?_
                    refine F.qn rfl rfl rfl rfl (r_pickf rfl rfl g168) ?_
                    refine F.qn rfl rfl rfl rfl (r_move rfl) ?_
                    refine F.qg rfl rfl rfl rfl rfl rfl g173 (r_move rfl) ?_
                    refine F.qg rfl rfl rfl rfl rfl rfl g173 (r_move rfl) ?_
                    refine F.qg rfl rfl rfl rfl rfl rfl g173 (r_neq rfl rfl) ?_
                    refine F.qn rfl rfl rfl rfl (r_pickf rfl rfl g173) ?_
                    refine F.qn rfl rfl rfl rfl (r_move rfl) ?_
                    refine F.qg rfl rfl rfl rfl rfl rfl g178 (r_move rfl) ?_
                    refine F.qg rfl rfl rfl rfl rfl rfl g178 (r_move rfl) ?_
                    refine F.qg rfl rfl rfl rfl rfl rfl g178 (r_neqB Try.underlying4 rfl rfl) ?_
                    refine F.qn rfl rfl rfl rfl (r_pickf rfl rfl g178) ?_
                    refine F.qn rfl rfl rfl rfl (r_move rfl) ?_
                    refine F.qg rfl rfl rfl rfl rfl rfl g183 (r_move rfl) ?_
                    refine F.qg rfl rfl rfl rfl rfl rfl g183 (r_move rfl) ?_
                    refine F.qg rfl rfl rfl rfl rfl rfl g183 (r_neqB Try.underlying4 rfl rfl) ?_
                    refine F.qn rfl rfl rfl rfl (r_pickf rfl rfl g183) ?_
                    refine F.qn rfl rfl rfl rfl (r_move rfl) ?_
                    refine F.qg rfl rfl rfl rfl rfl rfl g188 (r_move rfl) ?_
                    refine F.qg rfl rfl rfl rfl rfl rfl g188 (r_move rfl) ?_
                    refine F.qc rfl rfl rfl (wg rfl rfl rfl g188) (q_callF (xs := _) rfl ok45 rfl rfl (fun w hw => laws_vPairs.ok h191 w ((rd_sl (i := 8) rfl) w hw) ((rd_sl (i := 7) rfl) w hw))) ?_
                    refine F.qg rfl rfl rfl rfl rfl rfl g188 (r_not rfl) ?_
                    refine F.qn rfl rfl rfl rfl (r_pickf rfl rfl g188) ?_
                    refine F.qn rfl rfl rfl rfl (r_move rfl) ?_
                    refine F.qg rfl rfl rfl rfl rfl rfl g194 (r_move rfl) ?_
                    refine F.qg rfl rfl rfl rfl rfl rfl g194 (r_move rfl) ?_
                    refine F.qg rfl rfl rfl rfl rfl rfl g194 (r_neqB Try.underlying4 rfl rfl) ?_
                    refine F.qn rfl rfl rfl rfl (r_pickf rfl rfl g194) ?_
                    refine F.qn rfl rfl rfl rfl (r_move rfl) ?_
                    refine F.qg rfl rfl rfl rfl rfl rfl g199 (r_move rfl) ?_
                    refine F.qg rfl rfl rfl rfl rfl rfl g199 (r_move rfl) ?_
                    refine F.qg rfl rfl rfl rfl rfl rfl g199 (r_neqB Try.underlying4 rfl rfl) ?_
                    refine F.qn rfl rfl rfl rfl (r_pickf rfl rfl g199) ?_
                    refine F.qn rfl rfl rfl rfl (r_move rfl) ?_
                    refine F.qg rfl rfl rfl rfl rfl rfl g204 (r_move rfl) ?_
                    refine F.qg rfl rfl rfl rfl rfl rfl g204 (r_move rfl) ?_
                    refine F.qg rfl rfl rfl rfl rfl rfl g204 (r_neqB Try.underlying4 rfl rfl) ?_
                    refine F.qn rfl rfl rfl rfl (r_pickf rfl rfl g204) ?_
                    refine F.qn rfl rfl rfl rfl (r_move rfl) ?_
                    refine F.qg rfl rfl rfl rfl rfl rfl g209 (r_move rfl) ?_
                    refine F.qg rfl rfl rfl rfl rfl rfl g209 (r_move rfl) ?_
                    refine F.qc rfl rfl rfl (wg rfl rfl rfl g209) (q_callF (xs := _) rfl ok20 rfl rfl (fun w hw => laws_vInts.ok h212 w ((rd_sl (i := 1) rfl) w hw) ((rd_sl (i := 0) rfl) w hw))) ?_
                    refine F.qg rfl rfl rfl rfl rfl rfl g209 (r_not rfl) ?_
                    refine F.qn rfl rfl rfl rfl (r_pickf rfl rfl g209) ?_
                    refine F.qn rfl rfl rfl rfl (r_move rfl) ?_
                    iterate 3 refine F.qg rfl rfl rfl rfl rfl rfl g215 (r_move rfl) ?_
                    refine F.qg rfl rfl rfl rfl rfl rfl g218 (r_move rfl) ?_
                    refine F.qg rfl rfl rfl rfl rfl rfl g215 (r_pick rfl rfl g218) ?_
                    refine F.qg rfl rfl rfl rfl rfl rfl g215 (r_neqB Try.underlying4 rfl rfl) ?_
                    refine F.qn rfl rfl rfl rfl (r_pickf rfl rfl g215) ?_
                    refine F.qn rfl rfl rfl rfl (r_move rfl) ?_
                    refine F.qg rfl rfl rfl rfl rfl rfl g223 (r_move rfl) ?_
                    refine F.qg rfl rfl rfl rfl rfl rfl g223 (r_move rfl) ?_
                    refine F.qg rfl rfl rfl rfl rfl rfl g223 (r_neqB Try.underlying4 rfl rfl) ?_
                    refine F.qn rfl rfl rfl rfl (r_pickf rfl rfl g223) ?_
                    refine F.qn rfl rfl rfl rfl (r_move rfl) ?_
                    iterate 3 refine F.qg rfl rfl rfl rfl rfl rfl g228 (r_move rfl) ?_
                    refine F.qg rfl rfl rfl rfl rfl rfl g231 (r_move rfl) ?_
                    refine F.qg rfl rfl rfl rfl rfl rfl g228 (r_pick rfl rfl g231) ?_
                    refine F.qg rfl rfl rfl rfl rfl rfl g228 (r_neqB Try.underlying4 rfl rfl) ?_
                    refine F.qn rfl rfl rfl rfl (r_pickf rfl rfl g228) ?_
                    refine F.qn rfl rfl rfl rfl (r_move rfl) ?_
                    refine F.qg rfl rfl rfl rfl rfl rfl g236 (r_move rfl) ?_
                    refine F.qg rfl rfl rfl rfl rfl rfl g236 (r_move rfl) ?_
                    refine F.qg rfl rfl rfl rfl rfl rfl g236 (r_neqB Try.underlying4 rfl rfl) ?_
                    refine F.qn rfl rfl rfl rfl (r_pickf rfl rfl g236) ?_
                    refine F.nil ?_
                    cases hE_1
                    refine Nrm.only [3, 4, 5, 6, 7, 10, 14, 18, 19, 26, 27, 28, 29, 30, 31, 32, 240] rfl ?_
                    refine Nrm.pick [2, 12, 15, 8, 3, 4, 5, 1, 16, 17, 18, 13, 14] rfl rfl ?_
                    exact hj_1 _ _ ⟨rfl, rfl⟩
                  ·replace hE_1 := if_ff g231 hE_1
                   rcases Bool.eq_false_or_eq_true (t89_2 != false) with g236 | g236
                   ·replace hE_1 := if_tt g236 hE_1
                    refine Tri.reg (l := List.range 87) rfl ?_
                    refine F.qn rfl rfl rfl rfl (r_move rfl) ?_
                    refine F.qn rfl rfl rfl rfl (r_move rfl) ?_
                    refine F.qn rfl rfl rfl rfl (r_neqB Try.underlying4 rfl rfl) ?_
                    refine F.qn rfl rfl rfl rfl (r_move rfl) ?_
                    refine F.qg rfl rfl rfl rfl rfl rfl g157 (r_loadA ta27 ti27 rfl rfl (fun w hw => (box_cells (i := 12) rfl w hw))) ?_
                    refine F.qg rfl rfl rfl rfl rfl rfl g157 (r_loadA ta27 ti27 rfl rfl (fun w hw => (box_cells (i := 9) rfl w hw))) ?_
                    refine F.qc rfl rfl rfl (wg rfl rfl rfl g157) (q_callF (xs := _) rfl ok44 rfl rfl (fun w hw => laws_vMaze.ok h160 w ((rd_sl (i := 13) rfl) w hw) ((rd_sl (i := 14) rfl) w hw) ((rd_sl (i := 10) rfl) w hw) ((rd_sl (i := 11) rfl) w hw))) ?_
                    refine F.qg rfl rfl rfl rfl rfl rfl g157 (r_not rfl) ?_
                    refine F.qn rfl rfl rfl rfl (r_pickf rfl rfl g157) ?_
                    refine F.qn rfl rfl rfl rfl (r_move rfl) ?_
                    refine F.qg rfl rfl rfl rfl rfl rfl g163 (r_move rfl) ?_
                    refine F.qg rfl rfl rfl rfl rfl rfl g163 (r_move rfl) ?_
                    refine F.qg rfl rfl rfl rfl rfl rfl g163 (r_neqB Try.underlying4 rfl rfl) ?_
                    refine F.qn rfl rfl rfl rfl (r_pickf rfl rfl g163) ?_
                    refine F.qn rfl rfl rfl rfl (r_move rfl) ?_
                    refine F.qg rfl rfl rfl rfl rfl rfl g168 (r_move rfl) ?_
                    refine F.qg rfl rfl rfl rfl rfl rfl g168 (r_move rfl) ?_
                    refine F.qg rfl rfl rfl rfl rfl rfl g168 (r_neqB Try.underlying4 rfl rfl) ?_
                    refine F.qn rfl rfl rfl rfl (r_pickf rfl rfl g168) ?_
                    refine F.qn rfl rfl rfl rfl (r_move rfl) ?_
                    refine F.qg rfl rfl rfl rfl rfl rfl g173 (r_move rfl) ?_
                    refine F.qg rfl rfl rfl rfl rfl rfl g173 (r_move rfl) ?_
                    refine F.qg rfl rfl rfl rfl rfl rfl g173 (r_neq rfl rfl) ?_
                    refine F.qn rfl rfl rfl rfl (r_pickf rfl rfl g173) ?_
                    refine F.qn rfl rfl rfl rfl (r_move rfl) ?_
                    refine F.qg rfl rfl rfl rfl rfl rfl g178 (r_move rfl) ?_
                    refine F.qg rfl rfl rfl rfl rfl rfl g178 (r_move rfl) ?_
                    refine F.qg rfl rfl rfl rfl rfl rfl g178 (r_neqB Try.underlying4 rfl rfl) ?_
                    refine F.qn rfl rfl rfl rfl (r_pickf rfl rfl g178) ?_
                    refine F.qn rfl rfl rfl rfl (r_move rfl) ?_
                    refine F.qg rfl rfl rfl rfl rfl rfl g183 (r_move rfl) ?_
                    refine F.qg rfl rfl rfl rfl rfl rfl g183 (r_move rfl) ?_
                    refine F.qg rfl rfl rfl rfl rfl rfl g183 (r_neqB Try.underlying4 rfl rfl) ?_
                    refine F.qn rfl rfl rfl rfl (r_pickf rfl rfl g183) ?_
                    refine F.qn rfl rfl rfl rfl (r_move rfl) ?_
                    refine F.qg rfl rfl rfl rfl rfl rfl g188 (r_move rfl) ?_
                    refine F.qg rfl rfl rfl rfl rfl rfl g188 (r_move rfl) ?_
                    refine F.qc rfl rfl rfl (wg rfl rfl rfl g188) (q_callF (xs := _) rfl ok45 rfl rfl (fun w hw => laws_vPairs.ok h191 w ((rd_sl (i := 8) rfl) w hw) ((rd_sl (i := 7) rfl) w hw))) ?_
                    refine F.qg rfl rfl rfl rfl rfl rfl g188 (r_not rfl) ?_
                    refine F.qn rfl rfl rfl rfl (r_pickf rfl rfl g188) ?_
                    refine F.qn rfl rfl rfl rfl (r_move rfl) ?_
                    refine F.qg rfl rfl rfl rfl rfl rfl g194 (r_move rfl) ?_
                    refine F.qg rfl rfl rfl rfl rfl rfl g194 (r_move rfl) ?_
                    refine F.qg rfl rfl rfl rfl rfl rfl g194 (r_neqB Try.underlying4 rfl rfl) ?_
                    refine F.qn rfl rfl rfl rfl (r_pickf rfl rfl g194) ?_
                    refine F.qn rfl rfl rfl rfl (r_move rfl) ?_
                    refine F.qg rfl rfl rfl rfl rfl rfl g199 (r_move rfl) ?_
                    refine F.qg rfl rfl rfl rfl rfl rfl g199 (r_move rfl) ?_
                    refine F.qg rfl rfl rfl rfl rfl rfl g199 (r_neqB Try.underlying4 rfl rfl) ?_
                    refine F.qn rfl rfl rfl rfl (r_pickf rfl rfl g199) ?_
                    refine F.qn rfl rfl rfl rfl (r_move rfl) ?_
                    refine F.qg rfl rfl rfl rfl rfl rfl g204 (r_move rfl) ?_
                    refine F.qg rfl rfl rfl rfl rfl rfl g204 (r_move rfl) ?_
                    refine F.qg rfl rfl rfl rfl rfl rfl g204 (r_neqB Try.underlying4 rfl rfl) ?_
                    refine F.qn rfl rfl rfl rfl (r_pickf rfl rfl g204) ?_
                    refine F.qn rfl rfl rfl rfl (r_move rfl) ?_
                    refine F.qg rfl rfl rfl rfl rfl rfl g209 (r_move rfl) ?_
                    refine F.qg rfl rfl rfl rfl rfl rfl g209 (r_move rfl) ?_
                    refine F.qc rfl rfl rfl (wg rfl rfl rfl g209) (q_callF (xs := _) rfl ok20 rfl rfl (fun w hw => laws_vInts.ok h212 w ((rd_sl (i := 1) rfl) w hw) ((rd_sl (i := 0) rfl) w hw))) ?_
                    refine F.qg rfl rfl rfl rfl rfl rfl g209 (r_not rfl) ?_
                    refine F.qn rfl rfl rfl rfl (r_pickf rfl rfl g209) ?_
                    refine F.qn rfl rfl rfl rfl (r_move rfl) ?_
                    iterate 3 refine F.qg rfl rfl rfl rfl rfl rfl g215 (r_move rfl) ?_
                    refine F.qg rfl rfl rfl rfl rfl rfl g218 (r_move rfl) ?_
                    refine F.qg rfl rfl rfl rfl rfl rfl g215 (r_pick rfl rfl g218) ?_
                    refine F.qg rfl rfl rfl rfl rfl rfl g215 (r_neqB Try.underlying4 rfl rfl) ?_
                    refine F.qn rfl rfl rfl rfl (r_pickf rfl rfl g215) ?_
                    refine F.qn rfl rfl rfl rfl (r_move rfl) ?_
                    refine F.qg rfl rfl rfl rfl rfl rfl g223 (r_move rfl) ?_
                    refine F.qg rfl rfl rfl rfl rfl rfl g223 (r_move rfl) ?_
                    refine F.qg rfl rfl rfl rfl rfl rfl g223 (r_neqB Try.underlying4 rfl rfl) ?_
                    refine F.qn rfl rfl rfl rfl (r_pickf rfl rfl g223) ?_
                    refine F.qn rfl rfl rfl rfl (r_move rfl) ?_
                    iterate 3 refine F.qg rfl rfl rfl rfl rfl rfl g228 (r_move rfl) ?_
                    refine F.sk rfl rfl rfl (wf rfl rfl rfl g231) ?_
                    refine F.qg rfl rfl rfl rfl rfl rfl g228 (r_pickf rfl rfl g231) ?_
                    refine F.qg rfl rfl rfl rfl rfl rfl g228 (r_neqB Try.underlying4 rfl rfl) ?_
                    refine F.qn rfl rfl rfl rfl (r_pickf rfl rfl g228) ?_
                    refine F.qn rfl rfl rfl rfl (r_move rfl) ?_
                    iterate 3 refine F.sk rfl rfl rfl (wf rfl rfl rfl g236) ?_
                    refine F.qn rfl rfl rfl rfl (r_pick rfl rfl g236) ?_
                    refine F.nil ?_
                    cases hE_1
                    refine Nrm.only [3, 4, 5, 6, 7, 10, 14, 18, 19, 26, 27, 28, 29, 30, 31, 32, 240] rfl ?_
                    refine Nrm.pick [2, 12, 15, 8, 3, 4, 5, 1, 16, 17, 18, 13, 14] rfl rfl ?_
                    exact hj_1 _ _ ⟨rfl, rfl⟩
                   ·replace hE_1 := if_ff g236 hE_1
                    refine Tri.reg (l := List.range 87) rfl ?_
                    refine F.qn rfl rfl rfl rfl (r_move rfl) ?_
                    refine F.qn rfl rfl rfl rfl (r_move rfl) ?_
                    refine F.qn rfl rfl rfl rfl (r_neqB Try.underlying4 rfl rfl) ?_
                    refine F.qn rfl rfl rfl rfl (r_move rfl) ?_
                    refine F.qg rfl rfl rfl rfl rfl rfl g157 (r_loadA ta27 ti27 rfl rfl (fun w hw => (box_cells (i := 12) rfl w hw))) ?_
                    refine F.qg rfl rfl rfl rfl rfl rfl g157 (r_loadA ta27 ti27 rfl rfl (fun w hw => (box_cells (i := 9) rfl w hw))) ?_
                    refine F.qc rfl rfl rfl (wg rfl rfl rfl g157) (q_callF (xs := _) rfl ok44 rfl rfl (fun w hw => laws_vMaze.ok h160 w ((rd_sl (i := 13) rfl) w hw) ((rd_sl (i := 14) rfl) w hw) ((rd_sl (i := 10) rfl) w hw) ((rd_sl (i := 11) rfl) w hw))) ?_
                    refine F.qg rfl rfl rfl rfl rfl rfl g157 (r_not rfl) ?_
                    refine F.qn rfl rfl rfl rfl (r_pickf rfl rfl g157) ?_
                    refine F.qn rfl rfl rfl rfl (r_move rfl) ?_
                    refine F.qg rfl rfl rfl rfl rfl rfl g163 (r_move rfl) ?_
                    refine F.qg rfl rfl rfl rfl rfl rfl g163 (r_move rfl) ?_
                    refine F.qg rfl rfl rfl rfl rfl rfl g163 (r_neqB Try.underlying4 rfl rfl) ?_
                    refine F.qn rfl rfl rfl rfl (r_pickf rfl rfl g163) ?_
                    refine F.qn rfl rfl rfl rfl (r_move rfl) ?_
                    refine F.qg rfl rfl rfl rfl rfl rfl g168 (r_move rfl) ?_
                    refine F.qg rfl rfl rfl rfl rfl rfl g168 (r_move rfl) ?_
                    refine F.qg rfl rfl rfl rfl rfl rfl g168 (r_neqB Try.underlying4 rfl rfl) ?_
                    refine F.qn rfl rfl rfl rfl (r_pickf rfl rfl g168) ?_
                    refine F.qn rfl rfl rfl rfl (r_move rfl) ?_
                    refine F.qg rfl rfl rfl rfl rfl rfl g173 (r_move rfl) ?_
                    refine F.qg rfl rfl rfl rfl rfl rfl g173 (r_move rfl) ?_
                    refine F.qg rfl rfl rfl rfl rfl rfl g173 (r_neq rfl rfl) ?_
                    refine F.qn rfl rfl rfl rfl (r_pickf rfl rfl g173) ?_
                    refine F.qn rfl rfl rfl rfl (r_move rfl) ?_
                    refine F.qg rfl rfl rfl rfl rfl rfl g178 (r_move rfl) ?_
                    refine F.qg rfl rfl rfl rfl rfl rfl g178 (r_move rfl) ?_
                    refine F.qg rfl rfl rfl rfl rfl rfl g178 (r_neqB Try.underlying4 rfl rfl) ?_
                    refine F.qn rfl rfl rfl rfl (r_pickf rfl rfl g178) ?_
                    refine F.qn rfl rfl rfl rfl (r_move rfl) ?_
                    refine F.qg rfl rfl rfl rfl rfl rfl g183 (r_move rfl) ?_
                    refine F.qg rfl rfl rfl rfl rfl rfl g183 (r_move rfl) ?_
                    refine F.qg rfl rfl rfl rfl rfl rfl g183 (r_neqB Try.underlying4 rfl rfl) ?_
                    refine F.qn rfl rfl rfl rfl (r_pickf rfl rfl g183) ?_
                    refine F.qn rfl rfl rfl rfl (r_move rfl) ?_
                    refine F.qg rfl rfl rfl rfl rfl rfl g188 (r_move rfl) ?_
                    refine F.qg rfl rfl rfl rfl rfl rfl g188 (r_move rfl) ?_
                    refine F.qc rfl rfl rfl (wg rfl rfl rfl g188) (q_callF (xs := _) rfl ok45 rfl rfl (fun w hw => laws_vPairs.ok h191 w ((rd_sl (i := 8) rfl) w hw) ((rd_sl (i := 7) rfl) w hw))) ?_
                    refine F.qg rfl rfl rfl rfl rfl rfl g188 (r_not rfl) ?_
                    refine F.qn rfl rfl rfl rfl (r_pickf rfl rfl g188) ?_
                    refine F.qn rfl rfl rfl rfl (r_move rfl) ?_
                    refine F.qg rfl rfl rfl rfl rfl rfl g194 (r_move rfl) ?_
                    refine F.qg rfl rfl rfl rfl rfl rfl g194 (r_move rfl) ?_
                    refine F.qg rfl rfl rfl rfl rfl rfl g194 (r_neqB Try.underlying4 rfl rfl) ?_
                    refine F.qn rfl rfl rfl rfl (r_pickf rfl rfl g194) ?_
                    refine F.qn rfl rfl rfl rfl (r_move rfl) ?_
                    refine F.qg rfl rfl rfl rfl rfl rfl g199 (r_move rfl) ?_
                    refine F.qg rfl rfl rfl rfl rfl rfl g199 (r_move rfl) ?_
                    refine F.qg rfl rfl rfl rfl rfl rfl g199 (r_neqB Try.underlying4 rfl rfl) ?_
                    refine F.qn rfl rfl rfl rfl (r_pickf rfl rfl g199) ?_
                    refine F.qn rfl rfl rfl rfl (r_move rfl) ?_
                    refine F.qg rfl rfl rfl rfl rfl rfl g204 (r_move rfl) ?_
                    refine F.qg rfl rfl rfl rfl rfl rfl g204 (r_move rfl) ?_
                    refine F.qg rfl rfl rfl rfl rfl rfl g204 (r_neqB Try.underlying4 rfl rfl) ?_
                    refine F.qn rfl rfl rfl rfl (r_pickf rfl rfl g204) ?_
                    refine F.qn rfl rfl rfl rfl (r_move rfl) ?_
                    refine F.qg rfl rfl rfl rfl rfl rfl g209 (r_move rfl) ?_
                    refine F.qg rfl rfl rfl rfl rfl rfl g209 (r_move rfl) ?_
                    refine F.qc rfl rfl rfl (wg rfl rfl rfl g209) (q_callF (xs := _) rfl ok20 rfl rfl (fun w hw => laws_vInts.ok h212 w ((rd_sl (i := 1) rfl) w hw) ((rd_sl (i := 0) rfl) w hw))) ?_
                    refine F.qg rfl rfl rfl rfl rfl rfl g209 (r_not rfl) ?_
                    refine F.qn rfl rfl rfl rfl (r_pickf rfl rfl g209) ?_
                    refine F.qn rfl rfl rfl rfl (r_move rfl) ?_
                    iterate 3 refine F.qg rfl rfl rfl rfl rfl rfl g215 (r_move rfl) ?_
                    refine F.qg rfl rfl rfl rfl rfl rfl g218 (r_move rfl) ?_
                    refine F.qg rfl rfl rfl rfl rfl rfl g215 (r_pick rfl rfl g218) ?_
                    refine F.qg rfl rfl rfl rfl rfl rfl g215 (r_neqB Try.underlying4 rfl rfl) ?_
                    refine F.qn rfl rfl rfl rfl (r_pickf rfl rfl g215) ?_
                    refine F.qn rfl rfl rfl rfl (r_move rfl) ?_
                    refine F.qg rfl rfl rfl rfl rfl rfl g223 (r_move rfl) ?_
                    refine F.qg rfl rfl rfl rfl rfl rfl g223 (r_move rfl) ?_
                    refine F.qg rfl rfl rfl rfl rfl rfl g223 (r_neqB Try.underlying4 rfl rfl) ?_
                    refine F.qn rfl rfl rfl rfl (r_pickf rfl rfl g223) ?_
                    refine F.qn rfl rfl rfl rfl (r_move rfl) ?_
                    iterate 3 refine F.qg rfl rfl rfl rfl rfl rfl g228 (r_move rfl) ?_
                    refine F.sk rfl rfl rfl (wf rfl rfl rfl g231) ?_
                    refine F.qg rfl rfl rfl rfl rfl rfl g228 (r_pickf rfl rfl g231) ?_
                    refine F.qg rfl rfl rfl rfl rfl rfl g228 (r_neqB Try.underlying4 rfl rfl) ?_
                    refine F.qn rfl rfl rfl rfl (r_pickf rfl rfl g228) ?_
                    refine F.qn rfl rfl rfl rfl (r_move rfl) ?_
                    refine F.qg rfl rfl rfl rfl rfl rfl g236 (r_move rfl) ?_
                    refine F.qg rfl rfl rfl rfl rfl rfl g236 (r_move rfl) ?_
                    refine F.qg rfl rfl rfl rfl rfl rfl g236 (r_neqB Try.underlying4 rfl rfl) ?_
                    refine F.qn rfl rfl rfl rfl (r_pickf rfl rfl g236) ?_
                    refine F.nil ?_
                    cases hE_1
                    refine Nrm.only [3, 4, 5, 6, 7, 10, 14, 18, 19, 26, 27, 28, 29, 30, 31, 32, 240] rfl ?_
                    refine Nrm.pick [2, 12, 15, 8, 3, 4, 5, 1, 16, 17, 18, 13, 14] rfl rfl ?_
                    exact hj_1 _ _ ⟨rfl, rfl⟩
               ·replace hE_1 := if_ff g218 hE_1
                rcases Bool.eq_false_or_eq_true (t61_4 != false) with g223 | g223
                ·replace hE_1 := if_tt g223 hE_1
                 refine Tri.reg (l := List.range 87) rfl ?_
                 refine F.qn rfl rfl rfl rfl (r_move rfl) ?_
                 refine F.qn rfl rfl rfl rfl (r_move rfl) ?_
                 refine F.qn rfl rfl rfl rfl (r_neqB Try.underlying4 rfl rfl) ?_
                 refine F.qn rfl rfl rfl rfl (r_move rfl) ?_
                 refine F.qg rfl rfl rfl rfl rfl rfl g157 (r_loadA ta27 ti27 rfl rfl (fun w hw => (box_cells (i := 12) rfl w hw))) ?_
                 refine F.qg rfl rfl rfl rfl rfl rfl g157 (r_loadA ta27 ti27 rfl rfl (fun w hw => (box_cells (i := 9) rfl w hw))) ?_
                 refine F.qc rfl rfl rfl (wg rfl rfl rfl g157) (q_callF (xs := _) rfl ok44 rfl rfl (fun w hw => laws_vMaze.ok h160 w ((rd_sl (i := 13) rfl) w hw) ((rd_sl (i := 14) rfl) w hw) ((rd_sl (i := 10) rfl) w hw) ((rd_sl (i := 11) rfl) w hw))) ?_
                 refine F.qg rfl rfl rfl rfl rfl rfl g157 (r_not rfl) ?_
                 refine F.qn rfl rfl rfl rfl (r_pickf rfl rfl g157) ?_
                 refine F.qn rfl rfl rfl rfl (r_move rfl) ?_
                 refine F.qg rfl rfl rfl rfl rfl rfl g163 (r_move rfl) ?_
                 refine F.qg rfl rfl rfl rfl rfl rfl g163 (r_move rfl) ?_
                 refine F.qg rfl rfl rfl rfl rfl rfl g163 (r_neqB Try.underlying4 rfl rfl) ?_
                 refine F.qn rfl rfl rfl rfl (r_pickf rfl rfl g163) ?_
                 refine F.qn rfl rfl rfl rfl (r_move rfl) ?_
                 refine F.qg rfl rfl rfl rfl rfl rfl g168 (r_move rfl) ?_
                 refine F.qg rfl rfl rfl rfl rfl rfl g168 (r_move rfl) ?_
                 refine F.qg rfl rfl rfl rfl rfl rfl g168 (r_neqB Try.underlying4 rfl rfl) ?_
                 refine F.qn rfl rfl rfl rfl (r_pickf rfl rfl g168) ?_
                 refine F.qn rfl rfl rfl rfl (r_move rfl) ?_
                 refine F.qg rfl rfl rfl rfl rfl rfl g173 (r_move rfl) ?_
                 refine F.qg rfl rfl rfl rfl rfl rfl g173 (r_move rfl) ?_
                 refine F.qg rfl rfl rfl rfl rfl rfl g173 (r_neq rfl rfl) ?_
                 refine F.qn rfl rfl rfl rfl (r_pickf rfl rfl g173) ?_
                 refine F.qn rfl rfl rfl rfl (r_move rfl) ?_
                 refine F.qg rfl rfl rfl rfl rfl rfl g178 (r_move rfl) ?_
                 refine F.qg rfl rfl rfl rfl rfl rfl g178 (r_move rfl) ?_
                 refine F.qg rfl rfl rfl rfl rfl rfl g178 (r_neqB Try.underlying4 rfl rfl) ?_
                 refine F.qn rfl rfl rfl rfl (r_pickf rfl rfl g178) ?_
                 refine F.qn rfl rfl rfl rfl (r_move rfl) ?_
                 refine F.qg rfl rfl rfl rfl rfl rfl g183 (r_move rfl) ?_
                 refine F.qg rfl rfl rfl rfl rfl rfl g183 (r_move rfl) ?_
                 refine F.qg rfl rfl rfl rfl rfl rfl g183 (r_neqB Try.underlying4 rfl rfl) ?_
                 refine F.qn rfl rfl rfl rfl (r_pickf rfl rfl g183) ?_
                 refine F.qn rfl rfl rfl rfl (r_move rfl) ?_
                 refine F.qg rfl rfl rfl rfl rfl rfl g188 (r_move rfl) ?_
                 refine F.qg rfl rfl rfl rfl rfl rfl g188 (r_move rfl) ?_
                 refine F.qc rfl rfl rfl (wg rfl rfl rfl g188) (q_callF (xs := _) rfl ok45 rfl rfl (fun w hw => laws_vPairs.ok h191 w ((rd_sl (i := 8) rfl) w hw) ((rd_sl (i := 7) rfl) w hw))) ?_
                 refine F.qg rfl rfl rfl rfl rfl rfl g188 (r_not rfl) ?_
                 refine F.qn rfl rfl rfl rfl (r_pickf rfl rfl g188) ?_
                 refine F.qn rfl rfl rfl rfl (r_move rfl) ?_
                 refine F.qg rfl rfl rfl rfl rfl rfl g194 (r_move rfl) ?_
                 refine F.qg rfl rfl rfl rfl rfl rfl g194 (r_move rfl) ?_
                 refine F.qg rfl rfl rfl rfl rfl rfl g194 (r_neqB Try.underlying4 rfl rfl) ?_
                 refine F.qn rfl rfl rfl rfl (r_pickf rfl rfl g194) ?_
                 refine F.qn rfl rfl rfl rfl (r_move rfl) ?_
                 refine F.qg rfl rfl rfl rfl rfl rfl g199 (r_move rfl) ?_
                 refine F.qg rfl rfl rfl rfl rfl rfl g199 (r_move rfl) ?_
                 refine F.qg rfl rfl rfl rfl rfl rfl g199 (r_neqB Try.underlying4 rfl rfl) ?_
                 refine F.qn rfl rfl rfl rfl (r_pickf rfl rfl g199) ?_
                 refine F.qn rfl rfl rfl rfl (r_move rfl) ?_
                 refine F.qg rfl rfl rfl rfl rfl rfl g204 (r_move rfl) ?_
                 refine F.qg rfl rfl rfl rfl rfl rfl g204 (r_move rfl) ?_
                 refine F.qg rfl rfl rfl rfl rfl rfl g204 (r_neqB Try.underlying4 rfl rfl) ?_
                 refine F.qn rfl rfl rfl rfl (r_pickf rfl rfl g204) ?_
                 refine F.qn rfl rfl rfl rfl (r_move rfl) ?_
                 refine F.qg rfl rfl rfl rfl rfl rfl g209 (r_move rfl) ?_
                 refine F.qg rfl rfl rfl rfl rfl rfl g209 (r_move rfl) ?_
                 refine F.qc rfl rfl rfl (wg rfl rfl rfl g209) (q_callF (xs := _) rfl ok20 rfl rfl (fun w hw => laws_vInts.ok h212 w ((rd_sl (i := 1) rfl) w hw) ((rd_sl (i := 0) rfl) w hw))) ?_
                 refine F.qg rfl rfl rfl rfl rfl rfl g209 (r_not rfl) ?_
                 refine F.qn rfl rfl rfl rfl (r_pickf rfl rfl g209) ?_
                 refine F.qn rfl rfl rfl rfl (r_move rfl) ?_
                 iterate 3 refine F.qg rfl rfl rfl rfl rfl rfl g215 (r_move rfl) ?_
                 refine F.sk rfl rfl rfl (wf rfl rfl rfl g218) ?_
                 refine F.qg rfl rfl rfl rfl rfl rfl g215 (r_pickf rfl rfl g218) ?_
                 refine F.qg rfl rfl rfl rfl rfl rfl g215 (r_neqB Try.underlying4 rfl rfl) ?_
                 refine F.qn rfl rfl rfl rfl (r_pickf rfl rfl g215) ?_
                 refine F.qn rfl rfl rfl rfl (r_move rfl) ?_
                 iterate 3 refine F.sk rfl rfl rfl (wf rfl rfl rfl g223) ?_
                 refine F.qn rfl rfl rfl rfl (r_pick rfl rfl g223) ?_
                 refine F.qn rfl rfl rfl rfl (r_move rfl) ?_
                 iterate 3 refine F.sk rfl rfl rfl (wf rfl rfl rfl rfl) ?_
                 refine F.sk rfl rfl rfl (wanted_undef rfl rfl rfl) ?_
                 refine F.sk rfl rfl rfl (wf rfl rfl rfl rfl) ?_
                 refine F.sk rfl rfl rfl (wf rfl rfl rfl rfl) ?_
                 refine F.qn rfl rfl rfl rfl (r_pick rfl rfl rfl) ?_
                 refine F.qn rfl rfl rfl rfl (r_move rfl) ?_
                 iterate 3 refine F.sk rfl rfl rfl (wf rfl rfl rfl rfl) ?_
                 refine F.qn rfl rfl rfl rfl (r_pick rfl rfl rfl) ?_
                 refine F.nil ?_
                 cases hE_1
                 refine Nrm.only [3, 4, 5, 6, 7, 10, 14, 18, 19, 26, 27, 28, 29, 30, 31, 32, 240] rfl ?_
                 refine Nrm.pick [2, 12, 15, 8, 3, 4, 5, 1, 16, 17, 18, 13, 14] rfl rfl ?_
                 exact hj_1 _ _ ⟨rfl, rfl⟩
                ·replace hE_1 := if_ff g223 hE_1
                 rcases Bool.eq_false_or_eq_true (t61_4 != t75_2) with g228 | g228
                 ·replace hE_1 := if_tt g228 hE_1
                  refine Tri.reg (l := List.range 87) rfl ?_
                  refine F.qn rfl rfl rfl rfl (r_move rfl) ?_
                  refine F.qn rfl rfl rfl rfl (r_move rfl) ?_
                  refine F.qn rfl rfl rfl rfl (r_neqB Try.underlying4 rfl rfl) ?_
                  refine F.qn rfl rfl rfl rfl (r_move rfl) ?_
                  refine F.qg rfl rfl rfl rfl rfl rfl g157 (r_loadA ta27 ti27 rfl rfl (fun w hw => (box_cells (i := 12) rfl w hw))) ?_
                  refine F.qg rfl rfl rfl rfl rfl rfl g157 (r_loadA ta27 ti27 rfl rfl (fun w hw => (box_cells (i := 9) rfl w hw))) ?_
                  refine F.qc rfl rfl rfl (wg rfl rfl rfl g157) (q_callF (xs := _) rfl ok44 rfl rfl (fun w hw => laws_vMaze.ok h160 w ((rd_sl (i := 13) rfl) w hw) ((rd_sl (i := 14) rfl) w hw) ((rd_sl (i := 10) rfl) w hw) ((rd_sl (i := 11) rfl) w hw))) ?_
                  refine F.qg rfl rfl rfl rfl rfl rfl g157 (r_not rfl) ?_
                  refine F.qn rfl rfl rfl rfl (r_pickf rfl rfl g157) ?_
                  refine F.qn rfl rfl rfl rfl (r_move rfl) ?_
                  refine F.qg rfl rfl rfl rfl rfl rfl g163 (r_move rfl) ?_
                  refine F.qg rfl rfl rfl rfl rfl rfl g163 (r_move rfl) ?_
                  refine F.qg rfl rfl rfl rfl rfl rfl g163 (r_neqB Try.underlying4 rfl rfl) ?_
                  refine F.qn rfl rfl rfl rfl (r_pickf rfl rfl g163) ?_
                  refine F.qn rfl rfl rfl rfl (r_move rfl) ?_
                  refine F.qg rfl rfl rfl rfl rfl rfl g168 (r_move rfl) ?_
                  refine F.qg rfl rfl rfl rfl rfl rfl g168 (r_move rfl) ?_
                  refine F.qg rfl rfl rfl rfl rfl rfl g168 (r_neqB Try.underlying4 rfl rfl) ?_
                  refine F.qn rfl rfl rfl rfl (r_pickf rfl rfl g168) ?_
                  refine F.qn rfl rfl rfl rfl (r_move rfl) ?_
                  refine F.qg rfl rfl rfl rfl rfl rfl g173 (r_move rfl) ?_
                  refine F.qg rfl rfl rfl rfl rfl rfl g173 (r_move rfl) ?_
                  refine F.qg rfl rfl rfl rfl rfl rfl g173 (r_neq rfl rfl) ?_
                  refine F.qn rfl rfl rfl rfl (r_pickf rfl rfl g173) ?_
                  refine F.qn rfl rfl rfl rfl (r_move rfl) ?_
                  refine F.qg rfl rfl rfl rfl rfl rfl g178 (r_move rfl) ?_
                  refine F.qg rfl rfl rfl rfl rfl rfl g178 (r_move rfl) ?_
                  refine F.qg rfl rfl rfl rfl rfl rfl g178 (r_neqB Try.underlying4 rfl rfl) ?_
                  refine F.qn rfl rfl rfl rfl (r_pickf rfl rfl g178) ?_
                  refine F.qn rfl rfl rfl rfl (r_move rfl) ?_
                  refine F.qg rfl rfl rfl rfl rfl rfl g183 (r_move rfl) ?_
                  refine F.qg rfl rfl rfl rfl rfl rfl g183 (r_move rfl) ?_
                  refine F.qg rfl rfl rfl rfl rfl rfl g183 (r_neqB Try.underlying4 rfl rfl) ?_
                  refine F.qn rfl rfl rfl rfl (r_pickf rfl rfl g183) ?_
                  refine F.qn rfl rfl rfl rfl (r_move rfl) ?_
                  refine F.qg rfl rfl rfl rfl rfl rfl g188 (r_move rfl) ?_
                  refine F.qg rfl rfl rfl rfl rfl rfl g188 (r_move rfl) ?_
                  refine F.qc rfl rfl rfl (wg rfl rfl rfl g188) (q_callF (xs := _) rfl ok45 rfl rfl (fun w hw => laws_vPairs.ok h191 w ((rd_sl (i := 8) rfl) w hw) ((rd_sl (i := 7) rfl) w hw))) ?_
                  refine F.qg rfl rfl rfl rfl rfl rfl g188 (r_not rfl) ?_
                  refine F.qn rfl rfl rfl rfl (r_pickf rfl rfl g188) ?_
                  refine F.qn rfl rfl rfl rfl (r_move rfl) ?_
                  refine F.qg rfl rfl rfl rfl rfl rfl g194 (r_move rfl) ?_
                  refine F.qg rfl rfl rfl rfl rfl rfl g194 (r_move rfl) ?_
                  refine F.qg rfl rfl rfl rfl rfl rfl g194 (r_neqB Try.underlying4 rfl rfl) ?_
                  refine F.qn rfl rfl rfl rfl (r_pickf rfl rfl g194) ?_
                  refine F.qn rfl rfl rfl rfl (r_move rfl) ?_
                  refine F.qg rfl rfl rfl rfl rfl rfl g199 (r_move rfl) ?_
                  refine F.qg rfl rfl rfl rfl rfl rfl g199 (r_move rfl) ?_
                  refine F.qg rfl rfl rfl rfl rfl rfl g199 (r_neqB Try.underlying4 rfl rfl) ?_
                  refine F.qn rfl rfl rfl rfl (r_pickf rfl rfl g199) ?_
                  refine F.qn rfl rfl rfl rfl (r_move rfl) ?_
                  refine F.qg rfl rfl rfl rfl rfl rfl g204 (r_move rfl) ?_
                  refine F.qg rfl rfl rfl rfl rfl rfl g204 (r_move rfl) ?_
                  refine F.qg rfl rfl rfl rfl rfl rfl g204 (r_neqB Try.underlying4 rfl rfl) ?_
                  refine F.qn rfl rfl rfl rfl (r_pickf rfl rfl g204) ?_
                  refine F.qn rfl rfl rfl rfl (r_move rfl) ?_
                  refine F.qg rfl rfl rfl rfl rfl rfl g209 (r_move rfl) ?_
                  refine F.qg rfl rfl rfl rfl rfl rfl g209 (r_move rfl) ?_
                  refine F.qc rfl rfl rfl (wg rfl rfl rfl g209) (q_callF (xs := _) rfl ok20 rfl rfl (fun w hw => laws_vInts.ok h212 w ((rd_sl (i := 1) rfl) w hw) ((rd_sl (i := 0) rfl) w hw))) ?_
                  refine F.qg rfl rfl rfl rfl rfl rfl g209 (r_not rfl) ?_
                  refine F.qn rfl rfl rfl rfl (r_pickf rfl rfl g209) ?_
                  refine F.qn rfl rfl rfl rfl (r_move rfl) ?_
                  iterate 3 refine F.qg rfl rfl rfl rfl rfl rfl g215 (r_move rfl) ?_
                  refine F.sk rfl rfl rfl (wf rfl rfl rfl g218) ?_
                  refine F.qg rfl rfl rfl rfl rfl rfl g215 (r_pickf rfl rfl g218) ?_
                  refine F.qg rfl rfl rfl rfl rfl rfl g215 (r_neqB Try.underlying4 rfl rfl) ?_
                  refine F.qn rfl rfl rfl rfl (r_pickf rfl rfl g215) ?_
                  refine F.qn rfl rfl rfl rfl (r_move rfl) ?_
                  refine F.qg rfl rfl rfl rfl rfl rfl g223 (r_move rfl) ?_
                  refine F.qg rfl rfl rfl rfl rfl rfl g223 (r_move rfl) ?_
                  refine F.qg rfl rfl rfl rfl rfl rfl g223 (r_neqB Try.underlying4 rfl rfl) ?_
                  refine F.qn rfl rfl rfl rfl (r_pickf rfl rfl g223) ?_
                  refine F.qn rfl rfl rfl rfl (r_move rfl) ?_
                  iterate 3 refine F.sk rfl rfl rfl (wf rfl rfl rfl g228) ?_
                  refine F.sk rfl rfl rfl (wanted_undef rfl rfl rfl) ?_
                  refine F.sk rfl rfl rfl (wf rfl rfl rfl g228) ?_
                  refine F.sk rfl rfl rfl (wf rfl rfl rfl g228) ?_
                  refine F.qn rfl rfl rfl rfl (r_pick rfl rfl g228) ?_
                  refine F.qn rfl rfl rfl rfl (r_move rfl) ?_
                  iterate 3 refine F.sk rfl rfl rfl (wf rfl rfl rfl rfl) ?_
                  refine F.qn rfl rfl rfl rfl (r_pick rfl rfl rfl) ?_
                  refine F.nil ?_
                  cases hE_1
                  refine Nrm.only [3, 4, 5, 6, 7, 10, 14, 18, 19, 26, 27, 28, 29, 30, 31, 32, 240] rfl ?_
                  refine Nrm.pick [2, 12, 15, 8, 3, 4, 5, 1, 16, 17, 18, 13, 14] rfl rfl ?_
                  exact hj_1 _ _ ⟨rfl, rfl⟩
                 ·replace hE_1 := if_ff g228 hE_1
                  rcases Bool.eq_false_or_eq_true (t75_2) with g231 | g231
                  ·replace hE_1 := if_tt g231 hE_1
                   rcases Bool.eq_false_or_eq_true (t89_2 != t75_1) with g236 | g236
                   ·replace hE_1 := if_tt g236 hE_1
                    refine Tri.reg (l := List.range 87) rfl ?_
                    refine F.qn rfl rfl rfl rfl (r_move rfl) ?_
                    refine F.qn rfl rfl rfl rfl (r_move rfl) ?_
                    refine F.qn rfl rfl rfl rfl (r_neqB Try.underlying4 rfl rfl) ?_
                    refine F.qn rfl rfl rfl rfl (r_move rfl) ?_
                    refine F.qg rfl rfl rfl rfl rfl rfl g157 (r_loadA ta27 ti27 rfl rfl (fun w hw => (box_cells (i := 12) rfl w hw))) ?_
                    refine F.qg rfl rfl rfl rfl rfl rfl g157 (r_loadA ta27 ti27 rfl rfl (fun w hw => (box_cells (i := 9) rfl w hw))) ?_
                    refine F.qc rfl rfl rfl (wg rfl rfl rfl g157) (q_callF (xs := _) rfl ok44 rfl rfl (fun w hw => laws_vMaze.ok h160 w ((rd_sl (i := 13) rfl) w hw) ((rd_sl (i := 14) rfl) w hw) ((rd_sl (i := 10) rfl) w hw) ((rd_sl (i := 11) rfl) w hw))) ?_
                    refine F.qg rfl rfl rfl rfl rfl rfl g157 (r_not rfl) ?_
                    refine F.qn rfl rfl rfl rfl (r_pickf rfl rfl g157) ?_
                    refine F.qn rfl rfl rfl rfl (r_move rfl) ?_
                    refine F.qg rfl rfl rfl rfl rfl rfl g163 (r_move rfl) ?_
                    refine F.qg rfl rfl rfl rfl rfl rfl g163 (r_move rfl) ?_
                    refine F.qg rfl rfl rfl rfl rfl rfl g163 (r_neqB Try.underlying4 rfl rfl) ?_
                    refine F.qn rfl rfl rfl rfl (r_pickf rfl rfl g163) ?_
                    refine F.qn rfl rfl rfl rfl (r_move rfl) ?_
                    refine F.qg rfl rfl rfl rfl rfl rfl g168 (r_move rfl) ?_
                    refine F.qg rfl rfl rfl rfl rfl rfl g168 (r_move rfl) ?_
                    refine F.qg rfl rfl rfl rfl rfl rfl g168 (r_neqB Try.underlying4 rfl rfl) ?_
                    refine F.qn rfl rfl rfl rfl (r_pickf rfl rfl g168) ?_
                    refine F.qn rfl rfl rfl rfl (r_move rfl) ?_
                    refine F.qg rfl rfl rfl rfl rfl rfl g173 (r_move rfl) ?_
                    refine F.qg rfl rfl rfl rfl rfl rfl g173 (r_move rfl) ?_
                    refine F.qg rfl rfl rfl rfl rfl rfl g173 (r_neq rfl rfl) ?_
                    refine F.qn rfl rfl rfl rfl (r_pickf rfl rfl g173) ?_
                    refine F.qn rfl rfl rfl rfl (r_move rfl) ?_
                    refine F.qg rfl rfl rfl rfl rfl rfl g178 (r_move rfl) ?_
                    refine F.qg rfl rfl rfl rfl rfl rfl g178 (r_move rfl) ?_
                    refine F.qg rfl rfl rfl rfl rfl rfl g178 (r_neqB Try.underlying4 rfl rfl) ?_
                    refine F.qn rfl rfl rfl rfl (r_pickf rfl rfl g178) ?_
                    refine F.qn rfl rfl rfl rfl (r_move rfl) ?_
                    refine F.qg rfl rfl rfl rfl rfl rfl g183 (r_move rfl) ?_
                    refine F.qg rfl rfl rfl rfl rfl rfl g183 (r_move rfl) ?_
                    refine F.qg rfl rfl rfl rfl rfl rfl g183 (r_neqB Try.underlying4 rfl rfl) ?_
                    refine F.qn rfl rfl rfl rfl (r_pickf rfl rfl g183) ?_
                    refine F.qn rfl rfl rfl rfl (r_move rfl) ?_
                    refine F.qg rfl rfl rfl rfl rfl rfl g188 (r_move rfl) ?_
                    refine F.qg rfl rfl rfl rfl rfl rfl g188 (r_move rfl) ?_
                    refine F.qc rfl rfl rfl (wg rfl rfl rfl g188) (q_callF (xs := _) rfl ok45 rfl rfl (fun w hw => laws_vPairs.ok h191 w ((rd_sl (i := 8) rfl) w hw) ((rd_sl (i := 7) rfl) w hw))) ?_
                    refine F.qg rfl rfl rfl rfl rfl rfl g188 (r_not rfl) ?_
                    refine F.qn rfl rfl rfl rfl (r_pickf rfl rfl g188) ?_
                    refine F.qn rfl rfl rfl rfl (r_move rfl) ?_
                    refine F.qg rfl rfl rfl rfl rfl rfl g194 (r_move rfl) ?_
                    refine F.qg rfl rfl rfl rfl rfl rfl g194 (r_move rfl) ?_
                    refine F.qg rfl rfl rfl rfl rfl rfl g194 (r_neqB Try.underlying4 rfl rfl) ?_
                    refine F.qn rfl rfl rfl rfl (r_pickf rfl rfl g194) ?_
                    refine F.qn rfl rfl rfl rfl (r_move rfl) ?_
                    refine F.qg rfl rfl rfl rfl rfl rfl g199 (r_move rfl) ?_
                    refine F.qg rfl rfl rfl rfl rfl rfl g199 (r_move rfl) ?_
                    refine F.qg rfl rfl rfl rfl rfl rfl g199 (r_neqB Try.underlying4 rfl rfl) ?_
                    refine F.qn rfl rfl rfl rfl (r_pickf rfl rfl g199) ?_
                    refine F.qn rfl rfl rfl rfl (r_move rfl) ?_
                    refine F.qg rfl rfl rfl rfl rfl rfl g204 (r_move rfl) ?_
                    refine F.qg rfl rfl rfl rfl rfl rfl g204 (r_move rfl) ?_
                    refine F.qg rfl rfl rfl rfl rfl rfl g204 (r_neqB Try.underlying4 rfl rfl) ?_
                    refine F.qn rfl rfl rfl rfl (r_pickf rfl rfl g204) ?_
                    refine F.qn rfl rfl rfl rfl (r_move rfl) ?_
                    refine F.qg rfl rfl rfl rfl rfl rfl g209 (r_move rfl) ?_
                    refine F.qg rfl rfl rfl rfl rfl rfl g209 (r_move rfl) ?_
                    refine F.qc rfl rfl rfl (wg rfl rfl rfl g209) (q_callF (xs := _) rfl ok20 rfl rfl (fun w hw => laws_vInts.ok h212 w ((rd_sl (i := 1) rfl) w hw) ((rd_sl (i := 0) rfl) w hw))) ?_
                    refine F.qg rfl rfl rfl rfl rfl rfl g209 (r_not rfl) ?_
                    refine F.qn rfl rfl rfl rfl (r_pickf rfl rfl g209) ?_
                    refine F.qn rfl rfl rfl rfl (r_move rfl) ?_
                    iterate 3 refine F.qg rfl rfl rfl rfl rfl rfl g215 (r_move rfl) ?_
                    refine F.sk rfl rfl rfl (wf rfl rfl rfl g218) ?_
                    refine F.qg rfl rfl rfl rfl rfl rfl g215 (r_pickf rfl rfl g218) ?_
                    refine F.qg rfl rfl rfl rfl rfl rfl g215 (r_neqB Try.underlying4 rfl rfl) ?_
                    refine F.qn rfl rfl rfl rfl (r_pickf rfl rfl g215) ?_
                    refine F.qn rfl rfl rfl rfl (r_move rfl) ?_
                    refine F.qg rfl rfl rfl rfl rfl rfl g223 (r_move rfl) ?_
                    refine F.qg rfl rfl rfl rfl rfl rfl g223 (r_move rfl) ?_
                    refine F.qg rfl rfl rfl rfl rfl rfl g223 (r_neqB Try.underlying4 rfl rfl) ?_
                    refine F.qn rfl rfl rfl rfl (r_pickf rfl rfl g223) ?_
                    refine F.qn rfl rfl rfl rfl (r_move rfl) ?_
                    iterate 3 refine F.qg rfl rfl rfl rfl rfl rfl g228 (r_move rfl) ?_
                    refine F.qg rfl rfl rfl rfl rfl rfl g231 (r_move rfl) ?_
                    refine F.qg rfl rfl rfl rfl rfl rfl g228 (r_pick rfl rfl g231) ?_
                    refine F.qg rfl rfl rfl rfl rfl rfl g228 (r_neqB Try.underlying4 rfl rfl) ?_
                    refine F.qn rfl rfl rfl rfl (r_pickf rfl rfl g228) ?_
                    refine F.qn rfl rfl rfl rfl (r_move rfl) ?_
                    iterate 3 refine F.sk rfl rfl rfl (wf rfl rfl rfl g236) ?_
                    refine F.qn rfl rfl rfl rfl (r_pick rfl rfl g236) ?_
                    refine F.nil ?_
                    cases hE_1
                    refine Nrm.only [3, 4, 5, 6, 7, 10, 14, 18, 19, 26, 27, 28, 29, 30, 31, 32, 240] rfl ?_
                    refine Nrm.pick [2, 12, 15, 8, 3, 4, 5, 1, 16, 17, 18, 13, 14] rfl rfl ?_
                    exact hj_1 _ _ ⟨rfl, rfl⟩
                   ·replace hE_1 := if_ff g236 hE_1
                    refine Tri.reg (l := List.range 87) rfl ?_
                    refine F.qn rfl rfl rfl rfl (r_move rfl) ?_
                    refine F.qn rfl rfl rfl rfl (r_move rfl) ?_
                    refine F.qn rfl rfl rfl rfl (r_neqB Try.underlying4 rfl rfl) ?_
                    refine F.qn rfl rfl rfl rfl (r_move rfl) ?_
                    refine F.qg rfl rfl rfl rfl rfl rfl g157 (r_loadA ta27 ti27 rfl rfl (fun w hw => (box_cells (i := 12) rfl w hw))) ?_
                    refine F.qg rfl rfl rfl rfl rfl rfl g157 (r_loadA ta27 ti27 rfl rfl (fun w hw => (box_cells (i := 9) rfl w hw))) ?_
                    refine F.qc rfl rfl rfl (wg rfl rfl rfl g157) (q_callF (xs := _) rfl ok44 rfl rfl (fun w hw => laws_vMaze.ok h160 w ((rd_sl (i := 13) rfl) w hw) ((rd_sl (i := 14) rfl) w hw) ((rd_sl (i := 10) rfl) w hw) ((rd_sl (i := 11) rfl) w hw))) ?_
                    refine F.qg rfl rfl rfl rfl rfl rfl g157 (r_not rfl) ?_
                    refine F.qn rfl rfl rfl rfl (r_pickf rfl rfl g157) ?_
                    refine F.qn rfl rfl rfl rfl (r_move rfl) ?_
                    refine F.qg rfl rfl rfl rfl rfl rfl g163 (r_move rfl) ?_
                    refine F.qg rfl rfl rfl rfl rfl rfl g163 (r_move rfl) ?_
                    refine F.qg rfl rfl rfl rfl rfl rfl g163 (r_neqB Try.underlying4 rfl rfl) ?_
                    refine F.qn rfl rfl rfl rfl (r_pickf rfl rfl g163) ?_
                    refine F.qn rfl rfl rfl rfl (r_move rfl) ?_
                    refine F.qg rfl rfl rfl rfl rfl rfl g168 (r_move rfl) ?_
                    refine F.qg rfl rfl rfl rfl rfl rfl g168 (r_move rfl) ?_
                    refine F.qg rfl rfl rfl rfl rfl rfl g168 (r_neqB Try.underlying4 rfl rfl) ?_
                    refine F.qn rfl rfl rfl rfl (r_pickf rfl rfl g168) ?_
                    refine F.qn rfl rfl rfl rfl (r_move rfl) ?_
                    refine F.qg rfl rfl rfl rfl rfl rfl g173 (r_move rfl) ?_
                    refine F.qg rfl rfl rfl rfl rfl rfl g173 (r_move rfl) ?_
                    refine F.qg rfl rfl rfl rfl rfl rfl g173 (r_neq rfl rfl) ?_
                    refine F.qn rfl rfl rfl rfl (r_pickf rfl rfl g173) ?_
                    refine F.qn rfl rfl rfl rfl (r_move rfl) ?_
                    refine F.qg rfl rfl rfl rfl rfl rfl g178 (r_move rfl) ?_
                    refine F.qg rfl rfl rfl rfl rfl rfl g178 (r_move rfl) ?_
                    refine F.qg rfl rfl rfl rfl rfl rfl g178 (r_neqB Try.underlying4 rfl rfl) ?_
                    refine F.qn rfl rfl rfl rfl (r_pickf rfl rfl g178) ?_
                    refine F.qn rfl rfl rfl rfl (r_move rfl) ?_
                    refine F.qg rfl rfl rfl rfl rfl rfl g183 (r_move rfl) ?_
                    refine F.qg rfl rfl rfl rfl rfl rfl g183 (r_move rfl) ?_
                    refine F.qg rfl rfl rfl rfl rfl rfl g183 (r_neqB Try.underlying4 rfl rfl) ?_
                    refine F.qn rfl rfl rfl rfl (r_pickf rfl rfl g183) ?_
                    refine F.qn rfl rfl rfl rfl (r_move rfl) ?_
                    refine F.qg rfl rfl rfl rfl rfl rfl g188 (r_move rfl) ?_
                    refine F.qg rfl rfl rfl rfl rfl rfl g188 (r_move rfl) ?_
                    refine F.qc rfl rfl rfl (wg rfl rfl rfl g188) (q_callF (xs := _) rfl ok45 rfl rfl (fun w hw => laws_vPairs.ok h191 w ((rd_sl (i := 8) rfl) w hw) ((rd_sl (i := 7) rfl) w hw))) ?_
                    refine F.qg rfl rfl rfl rfl rfl rfl g188 (r_not rfl) ?_
                    refine F.qn rfl rfl rfl rfl (r_pickf rfl rfl g188) ?_
                    refine F.qn rfl rfl rfl rfl (r_move rfl) ?_
                    refine F.qg rfl rfl rfl rfl rfl rfl g194 (r_move rfl) ?_
                    refine F.qg rfl rfl rfl rfl rfl rfl g194 (r_move rfl) ?_
                    refine F.qg rfl rfl rfl rfl rfl rfl g194 (r_neqB Try.underlying4 rfl rfl) ?_
                    refine F.qn rfl rfl rfl rfl (r_pickf rfl rfl g194) ?_
                    refine F.qn rfl rfl rfl rfl (r_move rfl) ?_
                    refine F.qg rfl rfl rfl rfl rfl rfl g199 (r_move rfl) ?_
                    refine F.qg rfl rfl rfl rfl rfl rfl g199 (r_move rfl) ?_
                    refine F.qg rfl rfl rfl rfl rfl rfl g199 (r_neqB Try.underlying4 rfl rfl) ?_
                    refine F.qn rfl rfl rfl rfl (r_pickf rfl rfl g199) ?_
                    refine F.qn rfl rfl rfl rfl (r_move rfl) ?_
                    refine F.qg rfl rfl rfl rfl rfl rfl g204 (r_move rfl) ?_
                    refine F.qg rfl rfl rfl rfl rfl rfl g204 (r_move rfl) ?_
                    refine F.qg rfl rfl rfl rfl rfl rfl g204 (r_neqB Try.underlying4 rfl rfl) ?_
                    refine F.qn rfl rfl rfl rfl (r_pickf rfl rfl g204) ?_
                    refine F.qn rfl rfl rfl rfl (r_move rfl) ?_
                    refine F.qg rfl rfl rfl rfl rfl rfl g209 (r_move rfl) ?_
                    refine F.qg rfl rfl rfl rfl rfl rfl g209 (r_move rfl) ?_
                    refine F.qc rfl rfl rfl (wg rfl rfl rfl g209) (q_callF (xs := _) rfl ok20 rfl rfl (fun w hw => laws_vInts.ok h212 w ((rd_sl (i := 1) rfl) w hw) ((rd_sl (i := 0) rfl) w hw))) ?_
                    refine F.qg rfl rfl rfl rfl rfl rfl g209 (r_not rfl) ?_
                    refine F.qn rfl rfl rfl rfl (r_pickf rfl rfl g209) ?_
                    refine F.qn rfl rfl rfl rfl (r_move rfl) ?_
                    iterate 3 refine F.qg rfl rfl rfl rfl rfl rfl g215 (r_move rfl) ?_
                    refine F.sk rfl rfl rfl (wf rfl rfl rfl g218) ?_
                    refine F.qg rfl rfl rfl rfl rfl rfl g215 (r_pickf rfl rfl g218) ?_
                    refine F.qg rfl rfl rfl rfl rfl rfl g215 (r_neqB Try.underlying4 rfl rfl) ?_
                    refine F.qn rfl rfl rfl rfl (r_pickf rfl rfl g215) ?_
                    refine F.qn rfl rfl rfl rfl (r_move rfl) ?_
                    refine F.qg rfl rfl rfl rfl rfl rfl g223 (r_move rfl) ?_
                    refine F.qg rfl rfl rfl rfl rfl rfl g223 (r_move rfl) ?_
                    refine F.qg rfl rfl rfl rfl rfl rfl g223 (r_neqB Try.underlying4 rfl rfl) ?_
                    refine F.qn rfl rfl rfl rfl (r_pickf rfl rfl g223) ?_
                    refine F.qn rfl rfl rfl rfl (r_move rfl) ?_
                    iterate 3 refine F.qg rfl rfl rfl rfl rfl rfl g228 (r_move rfl) ?_
                    refine F.qg rfl rfl rfl rfl rfl rfl g231 (r_move rfl) ?_
                    refine F.qg rfl rfl rfl rfl rfl rfl g228 (r_pick rfl rfl g231) ?_
                    refine F.qg rfl rfl rfl rfl rfl rfl g228 (r_neqB Try.underlying4 rfl rfl) ?_
                    refine F.qn rfl rfl rfl rfl (r_pickf rfl rfl g228) ?_
                    refine F.qn rfl rfl rfl rfl (r_move rfl) ?_
                    refine F.qg rfl rfl rfl rfl rfl rfl g236 (r_move rfl) ?_
                    refine F.qg rfl rfl rfl rfl rfl rfl g236 (r_move rfl) ?_
                    refine F.qg rfl rfl rfl rfl rfl rfl g236 (r_neqB Try.underlying4 rfl rfl) ?_
                    refine F.qn rfl rfl rfl rfl (r_pickf rfl rfl g236) ?_
                    refine F.nil ?_
                    cases hE_1
                    refine Nrm.only [3, 4, 5, 6, 7, 10, 14, 18, 19, 26, 27, 28, 29, 30, 31, 32, 240] rfl ?_
                    refine Nrm.pick [2, 12, 15, 8, 3, 4, 5, 1, 16, 17, 18, 13, 14] rfl rfl ?_
                    exact hj_1 _ _ ⟨rfl, rfl⟩
                  ·replace hE_1 := if_ff g231 hE_1
                   rcases Bool.eq_false_or_eq_true (t89_2 != false) with g236 | g236
                   ·replace hE_1 := if_tt g236 hE_1
                    refine Tri.reg (l := List.range 87) rfl ?_
                    refine F.qn rfl rfl rfl rfl (r_move rfl) ?_
                    refine F.qn rfl rfl rfl rfl (r_move rfl) ?_
                    refine F.qn rfl rfl rfl rfl (r_neqB Try.underlying4 rfl rfl) ?_
                    refine F.qn rfl rfl rfl rfl (r_move rfl) ?_
                    refine F.qg rfl rfl rfl rfl rfl rfl g157 (r_loadA ta27 ti27 rfl rfl (fun w hw => (box_cells (i := 12) rfl w hw))) ?_
                    refine F.qg rfl rfl rfl rfl rfl rfl g157 (r_loadA ta27 ti27 rfl rfl (fun w hw => (box_cells (i := 9) rfl w hw))) ?_
                    refine F.qc rfl rfl rfl (wg rfl rfl rfl g157) (q_callF (xs := _) rfl ok44 rfl rfl (fun w hw => laws_vMaze.ok h160 w ((rd_sl (i := 13) rfl) w hw) ((rd_sl (i := 14) rfl) w hw) ((rd_sl (i := 10) rfl) w hw) ((rd_sl (i := 11) rfl) w hw))) ?_
                    refine F.qg rfl rfl rfl rfl rfl rfl g157 (r_not rfl) ?_
                    refine F.qn rfl rfl rfl rfl (r_pickf rfl rfl g157) ?_
                    refine F.qn rfl rfl rfl rfl (r_move rfl) ?_
                    refine F.qg rfl rfl rfl rfl rfl rfl g163 (r_move rfl) ?_
                    refine F.qg rfl rfl rfl rfl rfl rfl g163 (r_move rfl) ?_
                    refine F.qg rfl rfl rfl rfl rfl rfl g163 (r_neqB Try.underlying4 rfl rfl) ?_
                    refine F.qn rfl rfl rfl rfl (r_pickf rfl rfl g163) ?_
                    refine F.qn rfl rfl rfl rfl (r_move rfl) ?_
                    refine F.qg rfl rfl rfl rfl rfl rfl g168 (r_move rfl) ?_
                    refine F.qg rfl rfl rfl rfl rfl rfl g168 (r_move rfl) ?_
                    refine F.qg rfl rfl rfl rfl rfl rfl g168 (r_neqB Try.underlying4 rfl rfl) ?_
                    refine F.qn rfl rfl rfl rfl (r_pickf rfl rfl g168) ?_
                    refine F.qn rfl rfl rfl rfl (r_move rfl) ?_
                    refine F.qg rfl rfl rfl rfl rfl rfl g173 (r_move rfl) ?_
                    refine F.qg rfl rfl rfl rfl rfl rfl g173 (r_move rfl) ?_
                    refine F.qg rfl rfl rfl rfl rfl rfl g173 (r_neq rfl rfl) ?_
                    refine F.qn rfl rfl rfl rfl (r_pickf rfl rfl g173) ?_
                    refine F.qn rfl rfl rfl rfl (r_move rfl) ?_
                    refine F.qg rfl rfl rfl rfl rfl rfl g178 (r_move rfl) ?_
                    refine F.qg rfl rfl rfl rfl rfl rfl g178 (r_move rfl) ?_
                    refine F.qg rfl rfl rfl rfl rfl rfl g178 (r_neqB Try.underlying4 rfl rfl) ?_
                    refine F.qn rfl rfl rfl rfl (r_pickf rfl rfl g178) ?_
                    refine F.qn rfl rfl rfl rfl (r_move rfl) ?_
                    refine F.qg rfl rfl rfl rfl rfl rfl g183 (r_move rfl) ?_
                    refine F.qg rfl rfl rfl rfl rfl rfl g183 (r_move rfl) ?_
                    refine F.qg rfl rfl rfl rfl rfl rfl g183 (r_neqB Try.underlying4 rfl rfl) ?_
                    refine F.qn rfl rfl rfl rfl (r_pickf rfl rfl g183) ?_
                    refine F.qn rfl rfl rfl rfl (r_move rfl) ?_
                    refine F.qg rfl rfl rfl rfl rfl rfl g188 (r_move rfl) ?_
                    refine F.qg rfl rfl rfl rfl rfl rfl g188 (r_move rfl) ?_
                    refine F.qc rfl rfl rfl (wg rfl rfl rfl g188) (q_callF (xs := _) rfl ok45 rfl rfl (fun w hw => laws_vPairs.ok h191 w ((rd_sl (i := 8) rfl) w hw) ((rd_sl (i := 7) rfl) w hw))) ?_
                    refine F.qg rfl rfl rfl rfl rfl rfl g188 (r_not rfl) ?_
                    refine F.qn rfl rfl rfl rfl (r_pickf rfl rfl g188) ?_
                    refine F.qn rfl rfl rfl rfl (r_move rfl) ?_
                    refine F.qg rfl rfl rfl rfl rfl rfl g194 (r_move rfl) ?_
                    refine F.qg rfl rfl rfl rfl rfl rfl g194 (r_move rfl) ?_
                    refine F.qg rfl rfl rfl rfl rfl rfl g194 (r_neqB Try.underlying4 rfl rfl) ?_
                    refine F.qn rfl rfl rfl rfl (r_pickf rfl rfl g194) ?_
                    refine F.qn rfl rfl rfl rfl (r_move rfl) ?_
                    refine F.qg rfl rfl rfl rfl rfl rfl g199 (r_move rfl) ?_
                    refine F.qg rfl rfl rfl rfl rfl rfl g199 (r_move rfl) ?_
                    refine F.qg rfl rfl rfl rfl rfl rfl g199 (r_neqB Try.underlying4 rfl rfl) ?_
                    refine F.qn rfl rfl rfl rfl (r_pickf rfl rfl g199) ?_
                    refine F.qn rfl rfl rfl rfl (r_move rfl) ?_
                    refine F.qg rfl rfl rfl rfl rfl rfl g204 (r_move rfl) ?_
                    refine F.qg rfl rfl rfl rfl rfl rfl g204 (r_move rfl) ?_
                    refine F.qg rfl rfl rfl rfl rfl rfl g204 (r_neqB Try.underlying4 rfl rfl) ?_
                    refine F.qn rfl rfl rfl rfl (r_pickf rfl rfl g204) ?_
                    refine F.qn rfl rfl rfl rfl (r_move rfl) ?_
                    refine F.qg rfl rfl rfl rfl rfl rfl g209 (r_move rfl) ?_
                    refine F.qg rfl rfl rfl rfl rfl rfl g209 (r_move rfl) ?_
                    refine F.qc rfl rfl rfl (wg rfl rfl rfl g209) (q_callF (xs := _) rfl ok20 rfl rfl (fun w hw => laws_vInts.ok h212 w ((rd_sl (i := 1) rfl) w hw) ((rd_sl (i := 0) rfl) w hw))) ?_
                    refine F.qg rfl rfl rfl rfl rfl rfl g209 (r_not rfl) ?_
                    refine F.qn rfl rfl rfl rfl (r_pickf rfl rfl g209) ?_
                    refine F.qn rfl rfl rfl rfl (r_move rfl) ?_
                    iterate 3 refine F.qg rfl rfl rfl rfl rfl rfl g215 (r_move rfl) ?_
                    refine F.sk rfl rfl rfl (wf rfl rfl rfl g218) ?_
                    refine F.qg rfl rfl rfl rfl rfl rfl g215 (r_pickf rfl rfl g218) ?_
                    refine F.qg rfl rfl rfl rfl rfl rfl g215 (r_neqB Try.underlying4 rfl rfl) ?_
                    refine F.qn rfl rfl rfl rfl (r_pickf rfl rfl g215) ?_
                    refine F.qn rfl rfl rfl rfl (r_move rfl) ?_
                    refine F.qg rfl rfl rfl rfl rfl rfl g223 (r_move rfl) ?_
                    refine F.qg rfl rfl rfl rfl rfl rfl g223 (r_move rfl) ?_
                    refine F.qg rfl rfl rfl rfl rfl rfl g223 (r_neqB Try.underlying4 rfl rfl) ?_
                    refine F.qn rfl rfl rfl rfl (r_pickf rfl rfl g223) ?_
                    refine F.qn rfl rfl rfl rfl (r_move rfl) ?_
                    iterate 3 refine F.qg rfl rfl rfl rfl rfl rfl g228 (r_move rfl) ?_
                    refine F.sk rfl rfl rfl (wf rfl rfl rfl g231) ?_
                    refine F.qg rfl rfl rfl rfl rfl rfl g228 (r_pickf rfl rfl g231) ?_
                    refine F.qg rfl rfl rfl rfl rfl rfl g228 (r_neqB Try.underlying4 rfl rfl) ?_
                    refine F.qn rfl rfl rfl rfl (r_pickf rfl rfl g228) ?_
                    refine F.qn rfl rfl rfl rfl (r_move rfl) ?_
                    iterate 3 refine F.sk rfl rfl rfl (wf rfl rfl rfl g236) ?_
                    refine F.qn rfl rfl rfl rfl (r_pick rfl rfl g236) ?_
                    refine F.nil ?_
                    cases hE_1
                    refine Nrm.only [3, 4, 5, 6, 7, 10, 14, 18, 19, 26, 27, 28, 29, 30, 31, 32, 240] rfl ?_
                    refine Nrm.pick [2, 12, 15, 8, 3, 4, 5, 1, 16, 17, 18, 13, 14] rfl rfl ?_
                    exact hj_1 _ _ ⟨rfl, rfl⟩
                   ·replace hE_1 := if_ff g236 hE_1
                    refine Tri.reg (l := List.range 87) rfl ?_
                    refine F.qn rfl rfl rfl rfl (r_move rfl) ?_
                    refine F.qn rfl rfl rfl rfl (r_move rfl) ?_
                    refine F.qn rfl rfl rfl rfl (r_neqB Try.underlying4 rfl rfl) ?_
                    refine F.qn rfl rfl rfl rfl (r_move rfl) ?_
                    refine F.qg rfl rfl rfl rfl rfl rfl g157 (r_loadA ta27 ti27 rfl rfl (fun w hw => (box_cells (i := 12) rfl w hw))) ?_
                    refine F.qg rfl rfl rfl rfl rfl rfl g157 (r_loadA ta27 ti27 rfl rfl (fun w hw => (box_cells (i := 9) rfl w hw))) ?_
                    refine F.qc rfl rfl rfl (wg rfl rfl rfl g157) (q_callF (xs := _) rfl ok44 rfl rfl (fun w hw => laws_vMaze.ok h160 w ((rd_sl (i := 13) rfl) w hw) ((rd_sl (i := 14) rfl) w hw) ((rd_sl (i := 10) rfl) w hw) ((rd_sl (i := 11) rfl) w hw))) ?_
                    refine F.qg rfl rfl rfl rfl rfl rfl g157 (r_not rfl) ?_
                    refine F.qn rfl rfl rfl rfl (r_pickf rfl rfl g157) ?_
                    refine F.qn rfl rfl rfl rfl (r_move rfl) ?_
                    refine F.qg rfl rfl rfl rfl rfl rfl g163 (r_move rfl) ?_
                    refine F.qg rfl rfl rfl rfl rfl rfl g163 (r_move rfl) ?_
                    refine F.qg rfl rfl rfl rfl rfl rfl g163 (r_neqB Try.underlying4 rfl rfl) ?_
                    refine F.qn rfl rfl rfl rfl (r_pickf rfl rfl g163) ?_
                    refine F.qn rfl rfl rfl rfl (r_move rfl) ?_
                    refine F.qg rfl rfl rfl rfl rfl rfl g168 (r_move rfl) ?_
                    refine F.qg rfl rfl rfl rfl rfl rfl g168 (r_move rfl) ?_
                    refine F.qg rfl rfl rfl rfl rfl rfl g168 (r_neqB Try.underlying4 rfl rfl) ?_
                    refine F.qn rfl rfl rfl rfl (r_pickf rfl rfl g168) ?_
                    refine F.qn rfl rfl rfl rfl (r_move rfl) ?_
                    refine F.qg rfl rfl rfl rfl rfl rfl g173 (r_move rfl) ?_
                    refine F.qg rfl rfl rfl rfl rfl rfl g173 (r_move rfl) ?_
                    refine F.qg rfl rfl rfl rfl rfl rfl g173 (r_neq rfl rfl) ?_
                    refine F.qn rfl rfl rfl rfl (r_pickf rfl rfl g173) ?_
                    refine F.qn rfl rfl rfl rfl (r_move rfl) ?_
                    refine F.qg rfl rfl rfl rfl rfl rfl g178 (r_move rfl) ?_
                    refine F.qg rfl rfl rfl rfl rfl rfl g178 (r_move rfl) ?_
                    refine F.qg rfl rfl rfl rfl rfl rfl g178 (r_neqB Try.underlying4 rfl rfl) ?_
                    refine F.qn rfl rfl rfl rfl (r_pickf rfl rfl g178) ?_
                    refine F.qn rfl rfl rfl rfl (r_move rfl) ?_
                    refine F.qg rfl rfl rfl rfl rfl rfl g183 (r_move rfl) ?_
                    refine F.qg rfl rfl rfl rfl rfl rfl g183 (r_move rfl) ?_
                    refine F.qg rfl rfl rfl rfl rfl rfl g183 (r_neqB Try.underlying4 rfl rfl) ?_
                    refine F.qn rfl rfl rfl rfl (r_pickf rfl rfl g183) ?_
                    refine F.qn rfl rfl rfl rfl (r_move rfl) ?_
                    refine F.qg rfl rfl rfl rfl rfl rfl g188 (r_move rfl) ?_
                    refine F.qg rfl rfl rfl rfl rfl rfl g188 (r_move rfl) ?_
                    refine F.qc rfl rfl rfl (wg rfl rfl rfl g188) (q_callF (xs := _) rfl ok45 rfl rfl (fun w hw => laws_vPairs.ok h191 w ((rd_sl (i := 8) rfl) w hw) ((rd_sl (i := 7) rfl) w hw))) ?_
                    refine F.qg rfl rfl rfl rfl rfl rfl g188 (r_not rfl) ?_
                    refine F.qn rfl rfl rfl rfl (r_pickf rfl rfl g188) ?_
                    refine F.qn rfl rfl rfl rfl (r_move rfl) ?_
                    refine F.qg rfl rfl rfl rfl rfl rfl g194 (r_move rfl) ?_
                    refine F.qg rfl rfl rfl rfl rfl rfl g194 (r_move rfl) ?_
                    refine F.qg rfl rfl rfl rfl rfl rfl g194 (r_neqB Try.underlying4 rfl rfl) ?_
                    refine F.qn rfl rfl rfl rfl (r_pickf rfl rfl g194) ?_
                    refine F.qn rfl rfl rfl rfl (r_move rfl) ?_
                    refine F.qg rfl rfl rfl rfl rfl rfl g199 (r_move rfl) ?_
                    refine F.qg rfl rfl rfl rfl rfl rfl g199 (r_move rfl) ?_
                    refine F.qg rfl rfl rfl rfl rfl rfl g199 (r_neqB Try.underlying4 rfl rfl) ?_
                    refine F.qn rfl rfl rfl rfl (r_pickf rfl rfl g199) ?_
                    refine F.qn rfl rfl rfl rfl (r_move rfl) ?_
                    refine F.qg rfl rfl rfl rfl rfl rfl g204 (r_move rfl) ?_
                    refine F.qg rfl rfl rfl rfl rfl rfl g204 (r_move rfl) ?_
                    refine F.qg rfl rfl rfl rfl rfl rfl g204 (r_neqB Try.underlying4 rfl rfl) ?_
                    refine F.qn rfl rfl rfl rfl (r_pickf rfl rfl g204) ?_
                    refine F.qn rfl rfl rfl rfl (r_move rfl) ?_
                    refine F.qg rfl rfl rfl rfl rfl rfl g209 (r_move rfl) ?_
                    refine F.qg rfl rfl rfl rfl rfl rfl g209 (r_move rfl) ?_
                    refine F.qc rfl rfl rfl (wg rfl rfl rfl g209) (q_callF (xs := _) rfl ok20 rfl rfl (fun w hw => laws_vInts.ok h212 w ((rd_sl (i := 1) rfl) w hw) ((rd_sl (i := 0) rfl) w hw))) ?_
                    refine F.qg rfl rfl rfl rfl rfl rfl g209 (r_not rfl) ?_
                    refine F.qn rfl rfl rfl rfl (r_pickf rfl rfl g209) ?_
                    refine F.qn rfl rfl rfl rfl (r_move rfl) ?_
                    iterate 3 refine F.qg rfl rfl rfl rfl rfl rfl g215 (r_move rfl) ?_
                    refine F.sk rfl rfl rfl (wf rfl rfl rfl g218) ?_
                    refine F.qg rfl rfl rfl rfl rfl rfl g215 (r_pickf rfl rfl g218) ?_
                    refine F.qg rfl rfl rfl rfl rfl rfl g215 (r_neqB Try.underlying4 rfl rfl) ?_
                    refine F.qn rfl rfl rfl rfl (r_pickf rfl rfl g215) ?_
                    refine F.qn rfl rfl rfl rfl (r_move rfl) ?_
                    refine F.qg rfl rfl rfl rfl rfl rfl g223 (r_move rfl) ?_
                    refine F.qg rfl rfl rfl rfl rfl rfl g223 (r_move rfl) ?_
                    refine F.qg rfl rfl rfl rfl rfl rfl g223 (r_neqB Try.underlying4 rfl rfl) ?_
                    refine F.qn rfl rfl rfl rfl (r_pickf rfl rfl g223) ?_
                    refine F.qn rfl rfl rfl rfl (r_move rfl) ?_
                    iterate 3 refine F.qg rfl rfl rfl rfl rfl rfl g228 (r_move rfl) ?_
                    refine F.sk rfl rfl rfl (wf rfl rfl rfl g231) ?_
                    refine F.qg rfl rfl rfl rfl rfl rfl g228 (r_pickf rfl rfl g231) ?_
                    refine F.qg rfl rfl rfl rfl rfl rfl g228 (r_neqB Try.underlying4 rfl rfl) ?_
                    refine F.qn rfl rfl rfl rfl (r_pickf rfl rfl g228) ?_
                    refine F.qn rfl rfl rfl rfl (r_move rfl) ?_
                    refine F.qg rfl rfl rfl rfl rfl rfl g236 (r_move rfl) ?_
                    refine F.qg rfl rfl rfl rfl rfl rfl g236 (r_move rfl) ?_
                    refine F.qg rfl rfl rfl rfl rfl rfl g236 (r_neqB Try.underlying4 rfl rfl) ?_
                    refine F.qn rfl rfl rfl rfl (r_pickf rfl rfl g236) ?_
                    refine F.nil ?_
                    cases hE_1
                    refine Nrm.only [3, 4, 5, 6, 7, 10, 14, 18, 19, 26, 27, 28, 29, 30, 31, 32, 240] rfl ?_
                    refine Nrm.pick [2, 12, 15, 8, 3, 4, 5, 1, 16, 17, 18, 13, 14] rfl rfl ?_
                    exact hj_1 _ _ ⟨rfl, rfl⟩

end Go.Proofs
