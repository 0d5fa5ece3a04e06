/- A part of the proof of FnRequired: what the functions of the program compute, walked on the model. No condition. -/
import Derived.Shelf.SlGeneric
import Derived.Shelf.SlSortCmp.NoneTotal
import Derived.Test.YtebbaacgalipaaaGreatChecked
import Derived.Test.YtebbaacgalipaaaGreatFnRequiredB
import Derived.Test.YtebbaacgalipaaaGreatFnRequiredC
import Derived.Test.YtebbaacgalipaaaGreatFnRequiredD
import Derived.Test.YtebbaacgalipaaaGreatFnRequiredE
set_option linter.unusedSimpArgs false
/- loop.example/g01158/laws.FnRequired -/
namespace Go.Proofs
open Go Go.Ga
set_option linter.unusedVariables false
set_option maxRecDepth 100000
set_option maxHeartbeats 4000000
noncomputable def laws_FnRequired.l5 (k : Nat) (t339_1 : List Int) (x47 : Int) : Nat → Bool → Int → Option (Bool)
 | 0, _, _ => none
 | n + 1, x52, x53 => (if (decide (x53 < (t339_1.length : Int))) = true then ((if x52 = true then (rdl t339_1 x53).bind fun t383 => if ¬ x47 < 0 then some ((band (shr t383 x47) 1) == 1) else none else some false)).bind fun y52 => laws_FnRequired.l5 k t339_1 x47 n y52 (w64 (x53 + 1)) else some x52)

noncomputable def laws_FnRequired.l4 (k : Nat) (t58_1 : Int) (t58_2 : List (Int × Int × Int)) (t58_3 : List Int) (t58_4 : Int) (t88_1 : Int) (t339_1 : List Int) (t339_2 : Bool) : Nat → Int → Option ((Unit) ⊕ (Bool))
 | 0, _ => none
 | n + 1, x47 => (if (decide (x47 < 6)) = true then (impl_WithoutColour.f k t58_1 t58_2 t58_3 x47).bind fun (t349_1, t349_2, t349_3, t349_4) => (impl_CanWin.f k t349_1 t349_2 t349_3 t58_4).bind fun (t355_1, t355_2) => ((if (!t349_4) = true then some true else (if (!t355_2) = true then some true else if ¬ x47 < 0 then some (t355_1 == ((band (shr t88_1 x47) 1) == 1)) else none))).bind fun y372 => (if y372 = true then some (Sum.inr false) else (laws_FnRequired.l5 k t339_1 x47 k true 0).bind fun x52 => ((if (t58_4 == 0) = true then (if t339_2 = true then if ¬ x47 < 0 then some (x52 != ((band (shr t88_1 x47) 1) == 1)) else none else some false) else some false)).bind fun y403 => (if y403 = true then some (Sum.inr false) else laws_FnRequired.l4 k t58_1 t58_2 t58_3 t58_4 t88_1 t339_1 t339_2 n (w64 (x47 + 1)))) else some (Sum.inl ()))

noncomputable def laws_FnRequired.l3 (k : Nat) (t58_1 : Int) (t58_2 : List (Int × Int × Int)) (t58_3 : List Int) (t58_4 : Int) (t76_1 : List Int) : Nat → Int → Option ((Unit) ⊕ (Bool))
 | 0, _ => none
 | n + 1, x40 => (if (decide (x40 < (t58_2.length : Int))) = true then (impl_DropDoor.f k t58_1 t58_2 t58_3 x40).bind fun (t315_1, t315_2, t315_3, t315_4) => (impl_CanWin.f k t315_1 t315_2 t315_3 t58_4).bind fun (t321_1, t321_2) => ((if (!t315_4) = true then some true else (if (!t321_2) = true then some true else (laws_vHas.f k t76_1 x40).bind fun t334 => some (t321_1 == t334)))).bind fun y336 => (if y336 = true then some (Sum.inr false) else laws_FnRequired.l3 k t58_1 t58_2 t58_3 t58_4 t76_1 n (w64 (x40 + 1))) else some (Sum.inl ()))

noncomputable def laws_FnRequired.l2 (k : Nat) (t58_1 : Int) (t58_2 : List (Int × Int × Int)) (t58_3 : List Int) (t58_4 : Int) (t100_1 : List Int) : Nat → Int → Option ((Unit) ⊕ (Bool))
 | 0, _ => none
 | n + 1, x35 => (if (decide (x35 < t58_1)) = true then (impl_WithoutKeys.f k t58_1 t58_2 t58_3 x35).bind fun (t283_1, t283_2, t283_3, t283_4) => (impl_CanWin.f k t283_1 t283_2 t283_3 t58_4).bind fun (t289_1, t289_2) => ((if (!t283_4) = true then some true else (if (!t289_2) = true then some true else (laws_vHas.f k t100_1 x35).bind fun t302 => some (t289_1 != t302)))).bind fun y304 => (if y304 = true then some (Sum.inr false) else laws_FnRequired.l2 k t58_1 t58_2 t58_3 t58_4 t100_1 n (w64 (x35 + 1))) else some (Sum.inl ()))

noncomputable def laws_FnRequired.l1 (k : Nat) (t58_1 : Int) (t58_2 : List (Int × Int × Int)) (t58_3 : List Int) (t58_4 : Int) (t64_1 : List Int) : Nat → Int → Option ((Unit) ⊕ (Bool))
 | 0, _ => none
 | n + 1, x28 => (if (decide ((w64 (x28 + 1)) < t58_1)) = true then (impl_WithoutNode.f k t58_1 t58_2 t58_3 x28).bind fun (t230_1, t230_2, t230_3, t230_4) => (impl_CanWin.f k t230_1 t230_2 t230_3 t58_4).bind fun (t236_1, t236_2) => ((if (!t230_4) = true then some true else (if (!t236_2) = true then some true else (laws_vHas.f k t64_1 x28).bind fun t249 => some (t236_1 == t249)))).bind fun y251 => (if y251 = true then some (Sum.inr false) else ((laws_vHas.f k t64_1 x28).bind fun t254 => (if t254 = true then some (t58_4 == 0) else some false)).bind fun y258 => (if y258 = true then (impl_Precedes.f k t58_1 t58_2 t58_3 x28 (w64 (t58_1 - 1))).bind fun (t265_1, t265_2) => ((if (!t265_2) = true then some true else some (!t265_1))).bind fun y273 => (if y273 = true then some (Sum.inr false) else laws_FnRequired.l1 k t58_1 t58_2 t58_3 t58_4 t64_1 n (w64 (x28 + 1))) else laws_FnRequired.l1 k t58_1 t58_2 t58_3 t58_4 t64_1 n (w64 (x28 + 1)))) else some (Sum.inl ()))

noncomputable def laws_FnRequired.l0 (k : Nat) (t58_1 : Int) (t58_2 : List (Int × Int × Int)) (t58_3 : List Int) (t58_4 : Int) (t112_1 : Int) : Nat → Int → Option ((Unit) ⊕ (Bool))
 | 0, _ => none
 | n + 1, x25 => (if (decide (x25 < 6)) = true then if ¬ x25 < 0 then (impl_CanWin.f k t58_1 t58_2 t58_3 (bor t58_4 (shl 1 x25))).bind fun (t204_1, t204_2) => ((if (!t204_2) = true then some true else if ¬ x25 < 0 then some (t204_1 != ((band (shr t112_1 x25) 1) == 1)) else none)).bind fun y217 => (if y217 = true then some (Sum.inr false) else laws_FnRequired.l0 k t58_1 t58_2 t58_3 t58_4 t112_1 n (w64 (x25 + 1))) else none else some (Sum.inl ()))

noncomputable def laws_FnRequired.l10 (k : Nat) (t339_1 : List Int) (x47r : Int) : Nat → Bool → Int → Option (Bool)
 | 0, _, _ => none
 | n + 1, x52r, x53r => (if (decide (x53r < (t339_1.length : Int))) = true then ((if x52r = true then (rdl t339_1 x53r).bind fun t383 => if ¬ x47r < 0 then some ((band (shr t383 x47r) 1) == 1) else none else some false)).bind fun y52r => laws_FnRequired.l10 k t339_1 x47r n y52r (w64 (x53r + 1)) else some x52r)

noncomputable def laws_FnRequired.l9 (k : Nat) (t58_1 : Int) (t58_2 : List (Int × Int × Int)) (t58_3 : List Int) (t58_4 : Int) (t88_1 : Int) (t339_1 : List Int) (t339_2 : Bool) : Nat → Int → Option ((Unit) ⊕ (Bool))
 | 0, _ => none
 | n + 1, x47r => (if (decide (x47r < 6)) = true then (impl_WithoutColour.f k t58_1 t58_2 t58_3 x47r).bind fun (t349_1, t349_2, t349_3, t349_4) => (impl_CanWin.f k t349_1 t349_2 t349_3 t58_4).bind fun (t355_1, t355_2) => ((if (!t349_4) = true then some true else (if (!t355_2) = true then some true else if ¬ x47r < 0 then some (t355_1 == ((band (shr t88_1 x47r) 1) == 1)) else none))).bind fun y372r => (if y372r = true then some (Sum.inr false) else (laws_FnRequired.l10 k t339_1 x47r k true 0).bind fun x52r => ((if (t58_4 == 0) = true then (if t339_2 = true then if ¬ x47r < 0 then some (x52r != ((band (shr t88_1 x47r) 1) == 1)) else none else some false) else some false)).bind fun y403r => (if y403r = true then some (Sum.inr false) else laws_FnRequired.l9 k t58_1 t58_2 t58_3 t58_4 t88_1 t339_1 t339_2 n (w64 (x47r + 1)))) else some (Sum.inl ()))

noncomputable def laws_FnRequired.l8 (k : Nat) (t58_1 : Int) (t58_2 : List (Int × Int × Int)) (t58_3 : List Int) (t58_4 : Int) (t76_1 : List Int) : Nat → Int → Option ((Unit) ⊕ (Bool))
 | 0, _ => none
 | n + 1, x40r => (if (decide (x40r < (t58_2.length : Int))) = true then (impl_DropDoor.f k t58_1 t58_2 t58_3 x40r).bind fun (t315_1, t315_2, t315_3, t315_4) => (impl_CanWin.f k t315_1 t315_2 t315_3 t58_4).bind fun (t321_1, t321_2) => ((if (!t315_4) = true then some true else (if (!t321_2) = true then some true else (laws_vHas.f k t76_1 x40r).bind fun t334 => some (t321_1 == t334)))).bind fun y336r => (if y336r = true then some (Sum.inr false) else laws_FnRequired.l8 k t58_1 t58_2 t58_3 t58_4 t76_1 n (w64 (x40r + 1))) else some (Sum.inl ()))

noncomputable def laws_FnRequired.l7 (k : Nat) (t58_1 : Int) (t58_2 : List (Int × Int × Int)) (t58_3 : List Int) (t58_4 : Int) (t100_1 : List Int) : Nat → Int → Option ((Unit) ⊕ (Bool))
 | 0, _ => none
 | n + 1, x35r => (if (decide (x35r < t58_1)) = true then (impl_WithoutKeys.f k t58_1 t58_2 t58_3 x35r).bind fun (t283_1, t283_2, t283_3, t283_4) => (impl_CanWin.f k t283_1 t283_2 t283_3 t58_4).bind fun (t289_1, t289_2) => ((if (!t283_4) = true then some true else (if (!t289_2) = true then some true else (laws_vHas.f k t100_1 x35r).bind fun t302 => some (t289_1 != t302)))).bind fun y304r => (if y304r = true then some (Sum.inr false) else laws_FnRequired.l7 k t58_1 t58_2 t58_3 t58_4 t100_1 n (w64 (x35r + 1))) else some (Sum.inl ()))

noncomputable def laws_FnRequired.l6 (k : Nat) (t58_1 : Int) (t58_2 : List (Int × Int × Int)) (t58_3 : List Int) (t58_4 : Int) (t64_1 : List Int) : Nat → Int → Option ((Unit) ⊕ (Bool))
 | 0, _ => none
 | n + 1, x28r => (if (decide ((w64 (x28r + 1)) < t58_1)) = true then (impl_WithoutNode.f k t58_1 t58_2 t58_3 x28r).bind fun (t230_1, t230_2, t230_3, t230_4) => (impl_CanWin.f k t230_1 t230_2 t230_3 t58_4).bind fun (t236_1, t236_2) => ((if (!t230_4) = true then some true else (if (!t236_2) = true then some true else (laws_vHas.f k t64_1 x28r).bind fun t249 => some (t236_1 == t249)))).bind fun y251r => (if y251r = true then some (Sum.inr false) else ((laws_vHas.f k t64_1 x28r).bind fun t254 => (if t254 = true then some (t58_4 == 0) else some false)).bind fun y258r => (if y258r = true then (impl_Precedes.f k t58_1 t58_2 t58_3 x28r (w64 (t58_1 - 1))).bind fun (t265_1, t265_2) => ((if (!t265_2) = true then some true else some (!t265_1))).bind fun y273r => (if y273r = true then some (Sum.inr false) else laws_FnRequired.l6 k t58_1 t58_2 t58_3 t58_4 t64_1 n (w64 (x28r + 1))) else laws_FnRequired.l6 k t58_1 t58_2 t58_3 t58_4 t64_1 n (w64 (x28r + 1)))) else some (Sum.inl ()))

noncomputable def laws_FnRequired.f (k : Nat) (a0 : List By) : Option (Bool) := (laws_vBig.f k a0).bind fun t55 => (if t55 = true then some true else (spec_DrawRequiredNodes.f k a0).bind fun (t58_1, t58_2, t58_3, t58_4) => (impl_RequiredNodes.f k t58_1 t58_2 t58_3 t58_4).bind fun (t64_1, t64_2) => (spec_RequiredNodes.f k t58_1 t58_2 t58_3 t58_4).bind fun (t70_1, t70_2) => (impl_RequiredDoors.f k t58_1 t58_2 t58_3 t58_4).bind fun (t76_1, t76_2) => (spec_RequiredDoors.f k t58_1 t58_2 t58_3 t58_4).bind fun (t82_1, t82_2) => (impl_RequiredColours.f k t58_1 t58_2 t58_3 t58_4).bind fun (t88_1, t88_2) => (spec_RequiredColours.f k t58_1 t58_2 t58_3 t58_4).bind fun (t94_1, t94_2) => (impl_IdleNodes.f k t58_1 t58_2 t58_3 t58_4).bind fun (t100_1, t100_2) => (spec_IdleNodes.f k t58_1 t58_2 t58_3 t58_4).bind fun (t106_1, t106_2) => (impl_HelpfulColours.f k t58_1 t58_2 t58_3 t58_4).bind fun (t112_1, t112_2) => (spec_HelpfulColours.f k t58_1 t58_2 t58_3 t58_4).bind fun (t118_1, t118_2) => ((if (t64_2 != t70_2) = true then some true else (laws_vInts.f k t64_1 t70_1).bind fun t127 => (if (!t127) = true then some true else (if (t76_2 != t82_2) = true then some true else (laws_vInts.f k t76_1 t82_1).bind fun t138 => (if (!t138) = true then some true else (if (t88_1 != t94_1) = true then some true else (if (t88_2 != t94_2) = true then some true else (if (t100_2 != t106_2) = true then some true else (laws_vInts.f k t100_1 t106_1).bind fun t159 => (if (!t159) = true then some true else (if (t112_1 != t118_1) = true then some true else (if (t112_2 != t118_2) = true then some true else (if (t64_2 != t76_2) = true then some true else (if (t64_2 != t88_2) = true then some true else (if (t64_2 != t100_2) = true then some true else (if t64_2 = true then some t112_2 else some false))))))))))))))).bind fun y192 => (if y192 = true then some false else (if t112_2 = true then (laws_FnRequired.l0 k t58_1 t58_2 t58_3 t58_4 t112_1 k 0).bind fun s => Lr s some fun _ => (if (!t64_2) = true then some true else (laws_FnRequired.l1 k t58_1 t58_2 t58_3 t58_4 t64_1 k 1).bind fun s => Lr s some fun _ => (laws_FnRequired.l2 k t58_1 t58_2 t58_3 t58_4 t100_1 k 0).bind fun s => Lr s some fun _ => (laws_FnRequired.l3 k t58_1 t58_2 t58_3 t58_4 t76_1 k 0).bind fun s => Lr s some fun _ => (impl_LeastWins.f k t58_1 t58_2 t58_3).bind fun (t339_1, t339_2) => (laws_FnRequired.l4 k t58_1 t58_2 t58_3 t58_4 t88_1 t339_1 t339_2 k 0).bind fun s => Lr s some fun _ => some true) else (if (!t64_2) = true then some true else (laws_FnRequired.l6 k t58_1 t58_2 t58_3 t58_4 t64_1 k 1).bind fun s => Lr s some fun _ => (laws_FnRequired.l7 k t58_1 t58_2 t58_3 t58_4 t100_1 k 0).bind fun s => Lr s some fun _ => (laws_FnRequired.l8 k t58_1 t58_2 t58_3 t58_4 t76_1 k 0).bind fun s => Lr s some fun _ => (impl_LeastWins.f k t58_1 t58_2 t58_3).bind fun (t339_1, t339_2) => (laws_FnRequired.l9 k t58_1 t58_2 t58_3 t58_4 t88_1 t339_1 t339_2 k 0).bind fun s => Lr s some fun _ => some true))))

theorem laws_FnRequired.ok {k : Nat}  {a0 : List By} {r0 : Bool} (h : laws_FnRequired.f k a0 = some r0) (w : World) {va0 : Value} (hr_a0 : Rd w va0 a0) :
  Calls Tryz.prog 3 ([va0] : List Value).toArray w (fun e w' => e = .returned (.bool r0) ∧ Ext w w') := by
 unfold laws_FnRequired.f at h
 have hl_va0 := hr_a0.len
 refine Calls.of_tri (N := 404) Tryz.func3 rfl rfl rfl (Sep.nil (M := noM)) ?_
 refine Tri.seq (Tri.reg (l := [0]) rfl ?_)
 refine F.qn rfl (r_assign rfl) (F.nil (Nrm.seq (Tri.seq (Tri.seq ?_))))
 obtain ⟨t55, h55, h⟩ := bind_some h
 refine Tri.reg (l := [0, 1]) rfl ?_
 refine F.qn rfl (r_move rfl) ?_
 refine F.qcn rfl (q_callF (xs := _) rfl ok7 rfl rfl (fun w hw => laws_vBig.ok h55 w ((fun _ hw => hr_a0.sep hw) w hw))) ?_
 refine F.nil (Nrm.seq (Tri.cond (b := t55) rfl (fun g_1 => ?_) (fun g_1 => ?_)))
 ·replace h := if_tt g_1 h
  refine Tri.seq (Tri.reg (l := [0]) rfl ?_)
  refine F.qn rfl (r_assign rfl) (F.nil (Nrm.seq (Tri.ret ?_)))
  refine Rtn.then ?_
  cases h
  exact Rtn.body (.tmp rfl .nil) (fun w hw => ⟨rfl, hw.ext⟩)
 ·replace h := if_ff g_1 h
  refine Tri.skip (Nrm.seq (Tri.seq ?_))
  obtain ⟨⟨t58_1, t58_2, t58_3, t58_4⟩, h58, h⟩ := bind_some h
  refine Tri.reg (l := [0, 1, 2, 3, 4, 5, 6, 7]) rfl ?_
  refine F.qn rfl (r_move rfl) ?_
  refine F.mn rfl (m_callF (xs := _) rfl ok8 rfl rfl (fun w hw => spec_DrawRequiredNodes.ok h58 w ((fun _ hw => hr_a0.sep hw) w hw))) ?_
  rintro _ _ ⟨_, ⟨v58_1, S58_1, v58_2, S58_2, rfl, hl_v58_1, hl_v58_2, rfl⟩, rfl⟩
  refine F.qn rfl (r_move rfl) (F.qn rfl (r_extract rfl rfl) (F.qn rfl (r_extract rfl rfl) ?_))
  refine F.mn rfl (m_alloc ti27) ?_
  rintro _ _ ⟨b3_1, rfl, rfl⟩
  refine F.ef0 rfl rfl (wanted_none rfl) (d_storeG0 (i := 0) (cs2 := [.int .i64 t58_1, v58_1, v58_2]) ti27 rfl rfl rfl rfl rfl (Nat.le_of_ble_eq_true rfl) (lf_cons rfl (lf_cons (sl_leaf hl_v58_1) (lf_cons (sl_leaf hl_v58_2) lf_nil)))) ?_
  rintro _ _ ⟨rfl, rfl⟩
  refine F.qn rfl (r_assign rfl) (F.nil (Nrm.seq (Tri.seq ?_)))
  obtain ⟨⟨t64_1, t64_2⟩, h64, h⟩ := bind_some h
  refine Tri.reg (l := [0, 1, 2, 3, 4, 5, 6, 7]) rfl ?_
  refine F.qn rfl (r_loadA ta27 ti27 rfl rfl (fun w hw => (box_cells (i := 0) rfl w hw))) (F.qn rfl (r_move rfl) ?_)
  refine F.mn rfl (m_callF (xs := _) rfl ok9 rfl rfl (fun w hw => impl_RequiredNodes.ok h64 w ((rd_sl (i := 1) rfl) w hw) ((rd_sl (i := 2) rfl) w hw))) ?_
  rintro _ _ ⟨_, ⟨v64_1, S64_1, rfl, hl_v64_1, rfl⟩, rfl⟩
  refine F.qn rfl (r_move rfl) (F.qn rfl (r_extract rfl rfl) (F.qn rfl (r_extract rfl rfl) (F.qn rfl (r_assign rfl) (F.qn rfl (r_assign rfl) (F.nil (Nrm.seq (Tri.seq ?_)))))))
  obtain ⟨⟨t70_1, t70_2⟩, h70, h⟩ := bind_some h
  refine Tri.reg (l := [0, 1, 2, 3, 4, 5, 6, 7]) rfl ?_
  refine F.qn rfl (r_loadA ta27 ti27 rfl rfl (fun w hw => (box_cells (i := 1) rfl w hw))) (F.qn rfl (r_move rfl) ?_)
  refine F.mn rfl (m_callF (xs := _) rfl ok10 rfl rfl (fun w hw => spec_RequiredNodes.ok h70 w ((rd_sl (i := 2) rfl) w hw) ((rd_sl (i := 3) rfl) w hw))) ?_
  rintro _ _ ⟨_, ⟨v70_1, S70_1, rfl, hl_v70_1, rfl⟩, rfl⟩
  refine F.qn rfl (r_move rfl) (F.qn rfl (r_extract rfl rfl) (F.qn rfl (r_extract rfl rfl) (F.qn rfl (r_assign rfl) (F.qn rfl (r_assign rfl) (F.nil (Nrm.seq (Tri.seq ?_)))))))
  obtain ⟨⟨t76_1, t76_2⟩, h76, h⟩ := bind_some h
  refine Tri.reg (l := [0, 1, 2, 3, 4, 5, 6, 7]) rfl ?_
  refine F.qn rfl (r_loadA ta27 ti27 rfl rfl (fun w hw => (box_cells (i := 2) rfl w hw))) (F.qn rfl (r_move rfl) ?_)
  refine F.mn rfl (m_callF (xs := _) rfl ok11 rfl rfl (fun w hw => impl_RequiredDoors.ok h76 w ((rd_sl (i := 3) rfl) w hw) ((rd_sl (i := 4) rfl) w hw))) ?_
  rintro _ _ ⟨_, ⟨v76_1, S76_1, rfl, hl_v76_1, rfl⟩, rfl⟩
  refine F.qn rfl (r_move rfl) (F.qn rfl (r_extract rfl rfl) (F.qn rfl (r_extract rfl rfl) (F.qn rfl (r_assign rfl) (F.qn rfl (r_assign rfl) (F.nil (Nrm.seq (Tri.seq ?_)))))))
  obtain ⟨⟨t82_1, t82_2⟩, h82, h⟩ := bind_some h
  refine Tri.reg (l := [0, 1, 2, 3, 4, 5, 6, 7]) rfl ?_
  refine F.qn rfl (r_loadA ta27 ti27 rfl rfl (fun w hw => (box_cells (i := 3) rfl w hw))) (F.qn rfl (r_move rfl) ?_)
  refine F.mn rfl (m_callF (xs := _) rfl ok12 rfl rfl (fun w hw => spec_RequiredDoors.ok h82 w ((rd_sl (i := 4) rfl) w hw) ((rd_sl (i := 5) rfl) w hw))) ?_
  rintro _ _ ⟨_, ⟨v82_1, S82_1, rfl, hl_v82_1, rfl⟩, rfl⟩
  refine F.qn rfl (r_move rfl) (F.qn rfl (r_extract rfl rfl) (F.qn rfl (r_extract rfl rfl) (F.qn rfl (r_assign rfl) (F.qn rfl (r_assign rfl) (F.nil (Nrm.seq (Tri.seq ?_)))))))
  obtain ⟨⟨t88_1, t88_2⟩, h88, h⟩ := bind_some h
  refine Tri.reg (l := [0, 1, 2, 3, 4, 5, 6, 7]) rfl ?_
  refine F.qn rfl (r_loadA ta27 ti27 rfl rfl (fun w hw => (box_cells (i := 4) rfl w hw))) (F.qn rfl (r_move rfl) ?_)
  refine F.qcn rfl (q_callF (xs := _) rfl ok13 rfl rfl (fun w hw => impl_RequiredColours.ok h88 w ((rd_sl (i := 5) rfl) w hw) ((rd_sl (i := 6) rfl) w hw))) ?_
  refine F.qn rfl (r_move rfl) (F.qn rfl (r_extract rfl rfl) (F.qn rfl (r_extract rfl rfl) (F.qn rfl (r_assign rfl) (F.qn rfl (r_assign rfl) (F.nil (Nrm.seq (Tri.seq ?_)))))))
  obtain ⟨⟨t94_1, t94_2⟩, h94, h⟩ := bind_some h
  refine Tri.reg (l := [0, 1, 2, 3, 4, 5, 6, 7]) rfl ?_
  refine F.qn rfl (r_loadA ta27 ti27 rfl rfl (fun w hw => (box_cells (i := 4) rfl w hw))) (F.qn rfl (r_move rfl) ?_)
  refine F.qcn rfl (q_callF (xs := _) rfl ok14 rfl rfl (fun w hw => spec_RequiredColours.ok h94 w ((rd_sl (i := 5) rfl) w hw) ((rd_sl (i := 6) rfl) w hw))) ?_
  refine F.qn rfl (r_move rfl) (F.qn rfl (r_extract rfl rfl) (F.qn rfl (r_extract rfl rfl) (F.qn rfl (r_assign rfl) (F.qn rfl (r_assign rfl) (F.nil (Nrm.seq (Tri.seq ?_)))))))
  obtain ⟨⟨t100_1, t100_2⟩, h100, h⟩ := bind_some h
  refine Tri.reg (l := [0, 1, 2, 3, 4, 5, 6, 7]) rfl ?_
  refine F.qn rfl (r_loadA ta27 ti27 rfl rfl (fun w hw => (box_cells (i := 4) rfl w hw))) (F.qn rfl (r_move rfl) ?_)
  refine F.mn rfl (m_callF (xs := _) rfl ok15 rfl rfl (fun w hw => impl_IdleNodes.ok h100 w ((rd_sl (i := 5) rfl) w hw) ((rd_sl (i := 6) rfl) w hw))) ?_
  rintro _ _ ⟨_, ⟨v100_1, S100_1, rfl, hl_v100_1, rfl⟩, rfl⟩
  refine F.qn rfl (r_move rfl) (F.qn rfl (r_extract rfl rfl) (F.qn rfl (r_extract rfl rfl) (F.qn rfl (r_assign rfl) (F.qn rfl (r_assign rfl) (F.nil (Nrm.seq (Tri.seq ?_)))))))
  obtain ⟨⟨t106_1, t106_2⟩, h106, h⟩ := bind_some h
  refine Tri.reg (l := [0, 1, 2, 3, 4, 5, 6, 7]) rfl ?_
  refine F.qn rfl (r_loadA ta27 ti27 rfl rfl (fun w hw => (box_cells (i := 5) rfl w hw))) (F.qn rfl (r_move rfl) ?_)
  refine F.mn rfl (m_callF (xs := _) rfl ok16 rfl rfl (fun w hw => spec_IdleNodes.ok h106 w ((rd_sl (i := 6) rfl) w hw) ((rd_sl (i := 7) rfl) w hw))) ?_
  rintro _ _ ⟨_, ⟨v106_1, S106_1, rfl, hl_v106_1, rfl⟩, rfl⟩
  refine F.qn rfl (r_move rfl) (F.qn rfl (r_extract rfl rfl) (F.qn rfl (r_extract rfl rfl) (F.qn rfl (r_assign rfl) (F.qn rfl (r_assign rfl) (F.nil (Nrm.seq (Tri.seq ?_)))))))
  obtain ⟨⟨t112_1, t112_2⟩, h112, h⟩ := bind_some h
  refine Tri.reg (l := [0, 1, 2, 3, 4, 5, 6, 7]) rfl ?_
  refine F.qn rfl (r_loadA ta27 ti27 rfl rfl (fun w hw => (box_cells (i := 6) rfl w hw))) (F.qn rfl (r_move rfl) ?_)
  refine F.qcn rfl (q_callF (xs := _) rfl ok17 rfl rfl (fun w hw => impl_HelpfulColours.ok h112 w ((rd_sl (i := 7) rfl) w hw) ((rd_sl (i := 8) rfl) w hw))) ?_
  refine F.qn rfl (r_move rfl) (F.qn rfl (r_extract rfl rfl) (F.qn rfl (r_extract rfl rfl) (F.qn rfl (r_assign rfl) (F.qn rfl (r_assign rfl) (F.nil (Nrm.seq (Tri.seq ?_)))))))
  obtain ⟨⟨t118_1, t118_2⟩, h118, h⟩ := bind_some h
  refine Tri.reg (l := [0, 1, 2, 3, 4, 5, 6, 7]) rfl ?_
  refine F.qn rfl (r_loadA ta27 ti27 rfl rfl (fun w hw => (box_cells (i := 6) rfl w hw))) (F.qn rfl (r_move rfl) ?_)
  refine F.qcn rfl (q_callF (xs := _) rfl ok18 rfl rfl (fun w hw => spec_HelpfulColours.ok h118 w ((rd_sl (i := 7) rfl) w hw) ((rd_sl (i := 8) rfl) w hw))) ?_
  refine F.qn rfl (r_move rfl) (F.qn rfl (r_extract rfl rfl) (F.qn rfl (r_extract rfl rfl) (F.qn rfl (r_assign rfl) (F.qn rfl (r_assign rfl) (F.nil (Nrm.seq (Tri.seq (Tri.seq ?_))))))))
  obtain ⟨y192, hE_1, h⟩ := bind_some h
  refine Tri.cut (fun e' C' => e' = [(3, .pointer (some ⟨b3_1, 0, none⟩)), (4, .int .i64 t58_4), (5, v64_1), (6, .bool t64_2), (9, v76_1), (13, .int .i64 t88_1), (17, v100_1), (21, .int .i64 t112_1), (22, .bool t112_2), (192, .bool y192)] ∧ C' = Sep w noM [R.box b3_1 27 [.int .i64 t58_1, v58_1, v58_2], R.sl S100_1 v100_1 (t100_1 : List (Int)), R.sl S58_1 v58_1 (t58_2 : List (Int × Int × Int)), R.sl S58_2 v58_2 (t58_3 : List (Int)), R.sl S64_1 v64_1 (t64_1 : List (Int)), R.sl S76_1 v76_1 (t76_1 : List (Int))]) ?_ (fun hj_1 => ?_)
  ·rintro _ _ ⟨rfl, rfl⟩
   refine Nrm.seq (Tri.cond (b := y192) rfl (fun g_2 => ?_) (fun g_2 => ?_))
   ·replace h := if_tt g_2 h
    refine Tri.seq (Tri.reg (l := [0]) rfl ?_)
    refine F.qn rfl (r_assign rfl) (F.nil (Nrm.seq (Tri.ret ?_)))
    refine Rtn.then ?_
    cases h
    exact Rtn.body (.tmp rfl .nil) (fun w hw => ⟨rfl, hw.ext⟩)
   ·replace h := if_ff g_2 h
    refine Tri.skip (Nrm.seq (Tri.seq (Tri.seq (Tri.reg (l := [0]) rfl ?_))))
    refine F.qn rfl (r_move rfl) (F.nil (Nrm.seq (Tri.cond (b := t112_2) rfl (fun g_3 => ?_) (fun g_3 => ?_))))
    ·replace h := if_tt g_3 h
     refine Tri.seq (Tri.reg (l := [0]) rfl ?_)
     refine F.qn rfl (r_assign rfl) (F.nil (Nrm.seq ?_))
     obtain ⟨s0, hE_2, h⟩ := bind_some h
     refine Tri.block ?_
     refine Tri.only [3, 4, 5, 6, 9, 13, 17, 21, 25] rfl ?_
     refine Tri.pick [0, 1, 2, 3, 4, 5] rfl rfl ?_
     refine Tri.rounds (fun n e' C' => ∃ (x25' : Int), laws_FnRequired.l0 k t58_1 t58_2 t58_3 t58_4 t112_1 n x25' = some s0 ∧ e' = [(3, .pointer (some ⟨b3_1, 0, none⟩)), (4, .int .i64 t58_4), (5, v64_1), (6, .bool t64_2), (9, v76_1), (13, .int .i64 t88_1), (17, v100_1), (21, .int .i64 t112_1), (25, .int .i64 x25')] ∧ C' = Sep w noM [R.box b3_1 27 [.int .i64 t58_1, v58_1, v58_2], R.sl S100_1 v100_1 (t100_1 : List (Int)), R.sl S58_1 v58_1 (t58_2 : List (Int × Int × Int)), R.sl S58_2 v58_2 (t58_3 : List (Int)), R.sl S64_1 v64_1 (t64_1 : List (Int)), R.sl S76_1 v76_1 (t76_1 : List (Int))]) k ?_ ?_ ?_
     ·exact ⟨0, hE_2, rfl, rfl⟩
     ·rintro _ _ ⟨_, hE_2, _⟩
      rw [laws_FnRequired.l0.eq_1] at hE_2; cases hE_2
     ·rintro n_1 _ _ ⟨x25, hE_2, rfl, rfl⟩ ih_1
      rw [laws_FnRequired.l0.eq_2] at hE_2
      refine Tri.seq (Tri.seq (Tri.reg (l := [0, 1]) rfl ?_))
      refine F.qn rfl (r_move rfl) (F.qn rfl (r_lss rfl rfl) (F.nil (Nrm.seq (Tri.cond (b := decide (x25 < 6)) rfl (fun g_4 => ?_) (fun g_4 => ?_)))))
      ·replace hE_2 := if_tt g_4 hE_2
       refine Tri.skip (Nrm.seq (Tri.seq (Tri.block ?_)))
       refine Tri.seq ?_
       obtain ⟨hs202, hE_2⟩ := ck hE_2
       obtain ⟨⟨t204_1, t204_2⟩, h204, hE_2⟩ := bind_some hE_2
       refine Tri.drawA mixedT Sep.up [(0, true), (1, true), (2, true), (3, true), (4, true), (5, true), (6, true), (7, true), (8, true), (9, true), (10, true)] [] (by kernel_rfl) ?_
       refine S.qn rfl (r_loadA ta27 ti27 rfl rfl (fun w hw => (box_cells (i := 0) rfl w hw))) (S.qn rfl (r_move rfl) (S.qn rfl (r_move rfl) (S.qn rfl (r_shl rfl rfl hs202) (S.qn rfl (r_or rfl rfl) ?_))))
       refine S.qcn rfl (q_callF (xs := _) rfl ok20 rfl rfl (fun w hw => impl_CanWin.ok h204 w ((rd_sl (i := 2) rfl) w hw) ((rd_sl (i := 3) rfl) w hw))) ?_
       refine S.qn rfl (r_move rfl) (S.qn rfl (r_extract rfl rfl) (S.qn rfl (r_extract rfl rfl) (S.qn rfl (r_assign rfl) (S.qn rfl (r_assign rfl) (S.nil (F.nil (Nrm.seq (Tri.seq ?_))))))))
       obtain ⟨y217, hE_3, hE_2⟩ := bind_some hE_2
       refine Tri.cut (fun e' C' => e' = [(3, .pointer (some ⟨b3_1, 0, none⟩)), (4, .int .i64 t58_4), (5, v64_1), (6, .bool t64_2), (9, v76_1), (13, .int .i64 t88_1), (17, v100_1), (21, .int .i64 t112_1), (25, .int .i64 x25), (217, .bool y217)] ∧ C' = Sep w noM [R.box b3_1 27 [.int .i64 t58_1, v58_1, v58_2], R.sl S100_1 v100_1 (t100_1 : List (Int)), R.sl S58_1 v58_1 (t58_2 : List (Int × Int × Int)), R.sl S58_2 v58_2 (t58_3 : List (Int)), R.sl S64_1 v64_1 (t64_1 : List (Int)), R.sl S76_1 v76_1 (t76_1 : List (Int))]) ?_ (fun hj_2 => ?_)
       ·rintro _ _ ⟨rfl, rfl⟩
        refine Nrm.seq (Tri.cond (b := y217) rfl (fun g_5 => ?_) (fun g_5 => ?_))
        ·replace hE_2 := if_tt g_5 hE_2
         refine Tri.seq (Tri.reg (l := [0]) rfl ?_)
         refine F.qn rfl (r_assign rfl) (F.nil (Nrm.seq (Tri.ret ?_)))
         refine Rtn.block ?_
         refine Rtn.then ?_
         refine Rtn.then ?_
         refine Rtn.block ?_
         refine Rtn.then ?_
         cases hE_2
         replace h := Lr_inr h
         cases h
         exact Rtn.body (.tmp rfl .nil) (fun w hw => ⟨rfl, hw.ext⟩)
        ·replace hE_2 := if_ff g_5 hE_2
         refine Tri.skip (Nrm.block ?_)
         refine Nrm.seq (Tri.reg (l := [0, 1, 2]) rfl ?_)
         refine F.qn rfl (r_move rfl) (F.qn rfl (r_add rfl rfl) (F.qn rfl (r_assign rfl) (F.nil (Nrm.round ?_))))
         refine Rnd.only [3, 4, 5, 6, 9, 13, 17, 21, 25] rfl ?_
         refine Rnd.pick [0, 1, 2, 3, 4, 5] rfl rfl ?_
         exact ih_1 _ _ ⟨w64 (x25 + 1), hE_2, rfl, rfl⟩
       ·rcases Bool.eq_false_or_eq_true (!t204_2) with g209 | g209
        ·replace hE_3 := if_tt g209 hE_3
         refine Tri.reg (l := [0, 1, 2, 3, 4, 5, 6, 7, 8, 9, 10]) rfl ?_
         refine F.qn rfl (r_move rfl) (F.qn rfl (r_not rfl) (F.qn rfl (r_move rfl) ?_))
         iterate 7 refine F.skf rfl g209 ?_
         refine F.qn rfl (r_pick rfl rfl g209) (F.nil ?_)
         cases hE_3
         refine Nrm.only [3, 4, 5, 6, 9, 13, 17, 21, 25, 217] rfl ?_
         refine Nrm.pick [0, 1, 2, 3, 4, 5] rfl rfl ?_
         exact hj_2 _ _ ⟨rfl, rfl⟩
        ·replace hE_3 := if_ff g209 hE_3
         obtain ⟨hs213, hE_3⟩ := ck hE_3
         refine Tri.reg (l := [0, 1, 2, 3, 4, 5, 6, 7, 8, 9, 10]) rfl ?_
         refine F.qn rfl (r_move rfl) (F.qn rfl (r_not rfl) (F.qn rfl (r_move rfl) ?_))
         iterate 3 refine F.qg rfl g209 (r_move rfl) ?_
         refine F.qg rfl g209 (r_shr rfl rfl hs213) (F.qg rfl g209 (r_and rfl rfl) (F.qg rfl g209 (r_eql rfl rfl) (F.qg rfl g209 (r_neqB Tryz.underlying4 rfl rfl) (F.qn rfl (r_pickf rfl rfl g209) (F.nil ?_)))))
         cases hE_3
         refine Nrm.only [3, 4, 5, 6, 9, 13, 17, 21, 25, 217] rfl ?_
         refine Nrm.pick [0, 1, 2, 3, 4, 5] rfl rfl ?_
         exact hj_2 _ _ ⟨rfl, rfl⟩
      ·replace hE_2 := if_ff g_4 hE_2
       refine Tri.exit ?_
       refine Exi.then ?_
       refine Exi.then ?_
       refine Exi.same ?_
       cases hE_2
       replace h := Lr_inl h
       refine Nrm.seq (Tri.seq (Tri.seq (Tri.reg (l := [0, 1]) rfl ?_)))
       refine F.qn rfl (r_move rfl) (F.qn rfl (r_not rfl) (F.nil (Nrm.seq (Tri.cond (b := !t64_2) rfl (fun g_6 => ?_) (fun g_6 => ?_)))))
       ·replace h := if_tt g_6 h
        refine Tri.seq (Tri.reg (l := [0]) rfl ?_)
        refine F.qn rfl (r_assign rfl) (F.nil (Nrm.seq (Tri.ret ?_)))
        refine Rtn.then ?_
        cases h
        exact Rtn.body (.tmp rfl .nil) (fun w hw => ⟨rfl, hw.ext⟩)
       ·replace h := if_ff g_6 h
        refine Tri.skip (Nrm.seq (Tri.seq (Tri.seq (Tri.reg (l := [0]) rfl ?_))))
        refine F.qn rfl (r_assign rfl) (F.nil (Nrm.seq ?_))
        obtain ⟨s1, hE_4, h⟩ := bind_some h
        refine Tri.block ?_
        refine Tri.only [3, 4, 5, 9, 13, 17, 28] rfl ?_
        refine Tri.pick [0, 1, 2, 3, 4, 5] rfl rfl ?_
        refine Tri.rounds (fun n e' C' => ∃ (x28' : Int), laws_FnRequired.l1 k t58_1 t58_2 t58_3 t58_4 t64_1 n x28' = some s1 ∧ e' = [(3, .pointer (some ⟨b3_1, 0, none⟩)), (4, .int .i64 t58_4), (5, v64_1), (9, v76_1), (13, .int .i64 t88_1), (17, v100_1), (28, .int .i64 x28')] ∧ C' = Sep w noM [R.box b3_1 27 [.int .i64 t58_1, v58_1, v58_2], R.sl S100_1 v100_1 (t100_1 : List (Int)), R.sl S58_1 v58_1 (t58_2 : List (Int × Int × Int)), R.sl S58_2 v58_2 (t58_3 : List (Int)), R.sl S64_1 v64_1 (t64_1 : List (Int)), R.sl S76_1 v76_1 (t76_1 : List (Int))]) k ?_ ?_ ?_
        ·exact ⟨1, hE_4, rfl, rfl⟩
        ·rintro _ _ ⟨_, hE_4, _⟩
         rw [laws_FnRequired.l1.eq_1] at hE_4; cases hE_4
        ·rintro n_2 _ _ ⟨x28, hE_4, rfl, rfl⟩ ih_2
         rw [laws_FnRequired.l1.eq_2] at hE_4
         refine Tri.seq (Tri.seq (Tri.reg (l := [0, 1, 2, 3, 4]) rfl ?_))
         refine F.qn rfl (r_move rfl) (F.qn rfl (r_add rfl rfl) (F.qn rfl (r_fieldAddr tf27_0 rfl) (F.qn rfl (r_load ta3 rfl (fun w hw => cell_1 (box_cells (i := 0) rfl w hw) rfl)) (F.qn rfl (r_lss rfl rfl) (F.nil (Nrm.seq (Tri.cond (b := decide ((w64 (x28 + 1)) < t58_1)) rfl (fun g_7 => ?_) (fun g_7 => ?_))))))))
         ·replace hE_4 := if_tt g_7 hE_4
          refine Tri.skip (Nrm.seq (Tri.seq (Tri.block ?_)))
          refine Tri.seq ?_
          obtain ⟨⟨t230_1, t230_2, t230_3, t230_4⟩, h230, hE_4⟩ := bind_some hE_4
          refine Tri.reg (l := [0, 1, 2, 3, 4, 5, 6, 7, 8]) rfl ?_
          refine F.qn rfl (r_loadA ta27 ti27 rfl rfl (fun w hw => (box_cells (i := 0) rfl w hw))) (F.qn rfl (r_move rfl) ?_)
          refine F.mn rfl (m_callF (xs := _) rfl ok21 rfl rfl (fun w hw => impl_WithoutNode.ok h230 w ((rd_sl (i := 2) rfl) w hw) ((rd_sl (i := 3) rfl) w hw))) ?_
          rintro _ _ ⟨_, ⟨v230_1, S230_1, v230_2, S230_2, rfl, hl_v230_1, hl_v230_2, rfl⟩, rfl⟩
          refine F.qn rfl (r_move rfl) (F.qn rfl (r_extract rfl rfl) (F.qn rfl (r_extract rfl rfl) ?_))
          refine F.mn rfl (m_alloc ti27) ?_
          rintro _ _ ⟨b29_1, rfl, rfl⟩
          refine F.ef0 rfl rfl (wanted_none rfl) (d_storeG0 (i := 0) (cs2 := [.int .i64 t230_1, v230_1, v230_2]) ti27 rfl rfl rfl rfl rfl (Nat.le_of_ble_eq_true rfl) (lf_cons rfl (lf_cons (sl_leaf hl_v230_1) (lf_cons (sl_leaf hl_v230_2) lf_nil)))) ?_
          rintro _ _ ⟨rfl, rfl⟩
          refine F.qn rfl (r_assign rfl) (F.nil (Nrm.seq (Tri.seq ?_)))
          obtain ⟨⟨t236_1, t236_2⟩, h236, hE_4⟩ := bind_some hE_4
          refine Tri.reg (l := [0, 1, 2, 3, 4, 5, 6, 7]) rfl ?_
          refine F.qn rfl (r_loadA ta27 ti27 rfl rfl (fun w hw => (box_cells (i := 0) rfl w hw))) (F.qn rfl (r_move rfl) ?_)
          refine F.qcn rfl (q_callF (xs := _) rfl ok20 rfl rfl (fun w hw => impl_CanWin.ok h236 w ((rd_sl (i := 1) rfl) w hw) ((rd_sl (i := 2) rfl) w hw))) ?_
          refine F.qn rfl (r_move rfl) (F.qn rfl (r_extract rfl rfl) (F.qn rfl (r_extract rfl rfl) (F.qn rfl (r_assign rfl) (F.qn rfl (r_assign rfl) (F.nil (Nrm.seq (Tri.seq (Tri.seq ?_))))))))
          obtain ⟨y251, hE_5, hE_4⟩ := bind_some hE_4
          refine Tri.cut (fun e' C' => e' = [(3, .pointer (some ⟨b3_1, 0, none⟩)), (4, .int .i64 t58_4), (5, v64_1), (9, v76_1), (13, .int .i64 t88_1), (17, v100_1), (28, .int .i64 x28), (251, .bool y251)] ∧ C' = Sep w noM [R.box b3_1 27 [.int .i64 t58_1, v58_1, v58_2], R.sl S100_1 v100_1 (t100_1 : List (Int)), R.sl S58_1 v58_1 (t58_2 : List (Int × Int × Int)), R.sl S58_2 v58_2 (t58_3 : List (Int)), R.sl S64_1 v64_1 (t64_1 : List (Int)), R.sl S76_1 v76_1 (t76_1 : List (Int))]) ?_ (fun hj_3 => ?_)
          ·rintro _ _ ⟨rfl, rfl⟩
           refine Nrm.seq (Tri.cond (b := y251) rfl (fun g_8 => ?_) (fun g_8 => ?_))
           ·replace hE_4 := if_tt g_8 hE_4
            refine Tri.seq (Tri.reg (l := [0]) rfl ?_)
            refine F.qn rfl (r_assign rfl) (F.nil (Nrm.seq (Tri.ret ?_)))
            refine Rtn.then ?_
            refine Rtn.block ?_
            refine Rtn.then ?_
            refine Rtn.then ?_
            refine Rtn.block ?_
            refine Rtn.then ?_
            cases hE_4
            replace h := Lr_inr h
            cases h
            exact Rtn.body (.tmp rfl .nil) (fun w hw => ⟨rfl, hw.ext⟩)
           ·replace hE_4 := if_ff g_8 hE_4
            refine Tri.skip (Nrm.seq (Tri.seq ?_))
            obtain ⟨y258, hE_6, hE_4⟩ := bind_some hE_4
            refine Tri.cut (fun e' C' => e' = [(3, .pointer (some ⟨b3_1, 0, none⟩)), (4, .int .i64 t58_4), (5, v64_1), (9, v76_1), (13, .int .i64 t88_1), (17, v100_1), (28, .int .i64 x28), (258, .bool y258)] ∧ C' = Sep w noM [R.box b3_1 27 [.int .i64 t58_1, v58_1, v58_2], R.sl S100_1 v100_1 (t100_1 : List (Int)), R.sl S58_1 v58_1 (t58_2 : List (Int × Int × Int)), R.sl S58_2 v58_2 (t58_3 : List (Int)), R.sl S64_1 v64_1 (t64_1 : List (Int)), R.sl S76_1 v76_1 (t76_1 : List (Int))]) ?_ (fun hj_4 => ?_)
            ·rintro _ _ ⟨rfl, rfl⟩
             refine Nrm.seq (Tri.cond (b := y258) rfl (fun g_9 => ?_) (fun g_9 => ?_))
             ·replace hE_4 := if_tt g_9 hE_4
              refine Tri.seq ?_
              obtain ⟨⟨t265_1, t265_2⟩, h265, hE_4⟩ := bind_some hE_4
              refine Tri.reg (l := [0, 1, 2, 3, 4, 5, 6, 7, 8, 9, 10]) rfl ?_
              refine F.qn rfl (r_loadA ta27 ti27 rfl rfl (fun w hw => (box_cells (i := 0) rfl w hw))) (F.qn rfl (r_move rfl) (F.qn rfl (r_fieldAddr tf27_0 rfl) (F.qn rfl (r_load ta3 rfl (fun w hw => cell_1 (box_cells (i := 0) rfl w hw) rfl)) (F.qn rfl (r_sub rfl rfl) ?_))))
              refine F.qcn rfl (q_callF (xs := _) rfl ok23 rfl rfl (fun w hw => impl_Precedes.ok h265 w ((rd_sl (i := 2) rfl) w hw) ((rd_sl (i := 3) rfl) w hw))) ?_
              refine F.qn rfl (r_move rfl) (F.qn rfl (r_extract rfl rfl) (F.qn rfl (r_extract rfl rfl) (F.qn rfl (r_assign rfl) (F.qn rfl (r_assign rfl) (F.nil (Nrm.seq (Tri.seq ?_)))))))
              obtain ⟨y273, hE_7, hE_4⟩ := bind_some hE_4
              refine Tri.cut (fun e' C' => e' = [(3, .pointer (some ⟨b3_1, 0, none⟩)), (4, .int .i64 t58_4), (5, v64_1), (9, v76_1), (13, .int .i64 t88_1), (17, v100_1), (28, .int .i64 x28), (273, .bool y273)] ∧ C' = Sep w noM [R.box b3_1 27 [.int .i64 t58_1, v58_1, v58_2], R.sl S100_1 v100_1 (t100_1 : List (Int)), R.sl S58_1 v58_1 (t58_2 : List (Int × Int × Int)), R.sl S58_2 v58_2 (t58_3 : List (Int)), R.sl S64_1 v64_1 (t64_1 : List (Int)), R.sl S76_1 v76_1 (t76_1 : List (Int))]) ?_ (fun hj_5 => ?_)
              ·rintro _ _ ⟨rfl, rfl⟩
               refine Nrm.seq (Tri.cond (b := y273) rfl (fun g_10 => ?_) (fun g_10 => ?_))
               ·replace hE_4 := if_tt g_10 hE_4
                refine Tri.seq (Tri.reg (l := [0]) rfl ?_)
                refine F.qn rfl (r_assign rfl) (F.nil (Nrm.seq (Tri.ret ?_)))
                refine Rtn.block ?_
                refine Rtn.then ?_
                refine Rtn.then ?_
                refine Rtn.block ?_
                refine Rtn.then ?_
                cases hE_4
                replace h := Lr_inr h
                cases h
                exact Rtn.body (.tmp rfl .nil) (fun w hw => ⟨rfl, hw.ext⟩)
               ·replace hE_4 := if_ff g_10 hE_4
                refine Tri.skip (Nrm.block ?_)
                refine Nrm.seq (Tri.reg (l := [0, 1, 2]) rfl ?_)
                refine F.qn rfl (r_move rfl) (F.qn rfl (r_add rfl rfl) (F.qn rfl (r_assign rfl) (F.nil (Nrm.round ?_))))
                refine Rnd.only [3, 4, 5, 9, 13, 17, 28] rfl ?_
                refine Rnd.pick [0, 1, 2, 3, 4, 5] rfl rfl ?_
                exact ih_2 _ _ ⟨w64 (x28 + 1), hE_4, rfl, rfl⟩
              ·rcases Bool.eq_false_or_eq_true (!t265_2) with g270 | g270
               ·replace hE_7 := if_tt g270 hE_7
                refine Tri.reg (l := [0, 1, 2, 3, 4, 5]) rfl ?_
                refine F.qn rfl (r_move rfl) (F.qn rfl (r_not rfl) (F.qn rfl (r_move rfl) (F.skf rfl g270 (F.skf rfl g270 (F.qn rfl (r_pick rfl rfl g270) (F.nil ?_))))))
                cases hE_7
                refine Nrm.only [3, 4, 5, 9, 13, 17, 28, 273] rfl ?_
                refine Nrm.pick [0, 1, 2, 3, 4, 5] rfl rfl ?_
                exact hj_5 _ _ ⟨rfl, rfl⟩
               ·replace hE_7 := if_ff g270 hE_7
                refine Tri.reg (l := [0, 1, 2, 3, 4, 5]) rfl ?_
                refine F.qn rfl (r_move rfl) (F.qn rfl (r_not rfl) (F.qn rfl (r_move rfl) (F.qg rfl g270 (r_move rfl) (F.qg rfl g270 (r_not rfl) (F.qn rfl (r_pickf rfl rfl g270) (F.nil ?_))))))
                cases hE_7
                refine Nrm.only [3, 4, 5, 9, 13, 17, 28, 273] rfl ?_
                refine Nrm.pick [0, 1, 2, 3, 4, 5] rfl rfl ?_
                exact hj_5 _ _ ⟨rfl, rfl⟩
             ·replace hE_4 := if_ff g_9 hE_4
              refine Tri.skip (Nrm.block ?_)
              refine Nrm.seq (Tri.reg (l := [0, 1, 2]) rfl ?_)
              refine F.qn rfl (r_move rfl) (F.qn rfl (r_add rfl rfl) (F.qn rfl (r_assign rfl) (F.nil (Nrm.round ?_))))
              refine Rnd.only [3, 4, 5, 9, 13, 17, 28] rfl ?_
              refine Rnd.pick [0, 1, 2, 3, 4, 5] rfl rfl ?_
              exact ih_2 _ _ ⟨w64 (x28 + 1), hE_4, rfl, rfl⟩
            ·obtain ⟨t254, h254, hE_6⟩ := bind_some hE_6
             rcases Bool.eq_false_or_eq_true (t254) with g255 | g255
             ·replace hE_6 := if_tt g255 hE_6
              refine Tri.reg (l := [0, 1, 2, 3, 4, 5, 6]) rfl ?_
              refine F.qn rfl (r_move rfl) (F.qn rfl (r_move rfl) ?_)
              refine F.qcn rfl (q_callF (xs := _) rfl ok22 rfl rfl (fun w hw => laws_vHas.ok h254 w ((rd_sl (i := 4) rfl) w hw))) ?_
              refine F.qn rfl (r_move rfl) (F.qg rfl g255 (r_move rfl) (F.qg rfl g255 (r_eql rfl rfl) (F.qn rfl (r_pick rfl rfl g255) (F.nil ?_))))
              cases hE_6
              refine Nrm.only [3, 4, 5, 9, 13, 17, 28, 258] rfl ?_
              refine Nrm.pick [0, 1, 2, 3, 4, 5] rfl rfl ?_
              exact hj_4 _ _ ⟨rfl, rfl⟩
             ·replace hE_6 := if_ff g255 hE_6
              refine Tri.reg (l := [0, 1, 2, 3, 4, 5, 6]) rfl ?_
              refine F.qn rfl (r_move rfl) (F.qn rfl (r_move rfl) ?_)
              refine F.qcn rfl (q_callF (xs := _) rfl ok22 rfl rfl (fun w hw => laws_vHas.ok h254 w ((rd_sl (i := 4) rfl) w hw))) ?_
              refine F.qn rfl (r_move rfl) (F.skf rfl g255 (F.skf rfl g255 (F.qn rfl (r_pickf rfl rfl g255) (F.nil ?_))))
              cases hE_6
              refine Nrm.only [3, 4, 5, 9, 13, 17, 28, 258] rfl ?_
              refine Nrm.pick [0, 1, 2, 3, 4, 5] rfl rfl ?_
              exact hj_4 _ _ ⟨rfl, rfl⟩
          ·rcases Bool.eq_false_or_eq_true (!t230_4) with g241 | g241
           ·replace hE_5 := if_tt g241 hE_5
            refine Tri.reg (l := List.range 13) rfl ?_
            refine F.qn rfl (r_move rfl) ?_
            refine F.qn rfl (r_not rfl) (F.qn rfl (r_move rfl) (F.skf rfl g241 (F.skf rfl g241 (F.qn rfl (r_pick rfl rfl g241) (F.qn rfl (r_move rfl) ?_)))))
            iterate 5 refine F.skf rfl rfl ?_
            refine F.qn rfl (r_pick rfl rfl rfl) (F.nil ?_)
            cases hE_5
            refine Nrm.only [3, 4, 5, 9, 13, 17, 28, 251] rfl ?_
            refine Nrm.pick [3, 4, 5, 6, 7, 8] rfl rfl ?_
            exact hj_3 _ _ ⟨rfl, rfl⟩
           ·replace hE_5 := if_ff g241 hE_5
            rcases Bool.eq_false_or_eq_true (!t236_2) with g245 | g245
            ·replace hE_5 := if_tt g245 hE_5
             refine Tri.reg (l := List.range 13) rfl ?_
             refine F.qn rfl (r_move rfl) ?_
             refine F.qn rfl (r_not rfl) (F.qn rfl (r_move rfl) (F.qg rfl g241 (r_move rfl) (F.qg rfl g241 (r_not rfl) (F.qn rfl (r_pickf rfl rfl g241) (F.qn rfl (r_move rfl) ?_)))))
             iterate 5 refine F.skf rfl g245 ?_
             refine F.qn rfl (r_pick rfl rfl g245) (F.nil ?_)
             cases hE_5
             refine Nrm.only [3, 4, 5, 9, 13, 17, 28, 251] rfl ?_
             refine Nrm.pick [3, 4, 5, 6, 7, 8] rfl rfl ?_
             exact hj_3 _ _ ⟨rfl, rfl⟩
            ·replace hE_5 := if_ff g245 hE_5
             obtain ⟨t249, h249, hE_5⟩ := bind_some hE_5
             refine Tri.reg (l := List.range 13) rfl ?_
             refine F.qn rfl (r_move rfl) ?_
             refine F.qn rfl (r_not rfl) (F.qn rfl (r_move rfl) (F.qg rfl g241 (r_move rfl) (F.qg rfl g241 (r_not rfl) (F.qn rfl (r_pickf rfl rfl g241) (F.qn rfl (r_move rfl) ?_)))))
             iterate 3 refine F.qg rfl g245 (r_move rfl) ?_
             refine F.qc rfl rfl rfl (wg rfl rfl rfl g245) (q_callF (xs := _) rfl ok22 rfl rfl (fun w hw => laws_vHas.ok h249 w ((rd_sl (i := 7) rfl) w hw))) ?_
             refine F.qg rfl g245 (r_eqlB Tryz.underlying4 rfl rfl) (F.qn rfl (r_pickf rfl rfl g245) (F.nil ?_))
             cases hE_5
             refine Nrm.only [3, 4, 5, 9, 13, 17, 28, 251] rfl ?_
             refine Nrm.pick [3, 4, 5, 6, 7, 8] rfl rfl ?_
             exact hj_3 _ _ ⟨rfl, rfl⟩
         ·replace hE_4 := if_ff g_7 hE_4
          refine Tri.exit ?_
          refine Exi.then ?_
          refine Exi.then ?_
          refine Exi.same ?_
          cases hE_4
          replace h := Lr_inl h
          refine Nrm.seq (Tri.seq (Tri.seq (Tri.reg (l := [0]) rfl ?_)))
          refine F.qn rfl (r_assign rfl) (F.nil (Nrm.seq ?_))
          obtain ⟨s2, hE_8, h⟩ := bind_some h
          refine Tri.block ?_
          refine Tri.only [3, 4, 9, 13, 17, 35] rfl ?_
          refine Tri.pick [0, 1, 2, 3, 5] rfl rfl ?_
          refine Tri.rounds (fun n e' C' => ∃ (x35' : Int), laws_FnRequired.l2 k t58_1 t58_2 t58_3 t58_4 t100_1 n x35' = some s2 ∧ e' = [(3, .pointer (some ⟨b3_1, 0, none⟩)), (4, .int .i64 t58_4), (9, v76_1), (13, .int .i64 t88_1), (17, v100_1), (35, .int .i64 x35')] ∧ C' = Sep w noM [R.box b3_1 27 [.int .i64 t58_1, v58_1, v58_2], R.sl S100_1 v100_1 (t100_1 : List (Int)), R.sl S58_1 v58_1 (t58_2 : List (Int × Int × Int)), R.sl S58_2 v58_2 (t58_3 : List (Int)), R.sl S76_1 v76_1 (t76_1 : List (Int))]) k ?_ ?_ ?_
          ·exact ⟨0, hE_8, rfl, rfl⟩
          ·rintro _ _ ⟨_, hE_8, _⟩
           rw [laws_FnRequired.l2.eq_1] at hE_8; cases hE_8
          ·rintro n_3 _ _ ⟨x35, hE_8, rfl, rfl⟩ ih_3
           rw [laws_FnRequired.l2.eq_2] at hE_8
           refine Tri.seq (Tri.seq (Tri.reg (l := [0, 1, 2, 3]) rfl ?_))
           refine F.qn rfl (r_move rfl) (F.qn rfl (r_fieldAddr tf27_0 rfl) (F.qn rfl (r_load ta3 rfl (fun w hw => cell_1 (box_cells (i := 0) rfl w hw) rfl)) (F.qn rfl (r_lss rfl rfl) (F.nil (Nrm.seq (Tri.cond (b := decide (x35 < t58_1)) rfl (fun g_11 => ?_) (fun g_11 => ?_)))))))
           ·replace hE_8 := if_tt g_11 hE_8
            refine Tri.skip (Nrm.seq (Tri.seq (Tri.block ?_)))
            refine Tri.seq ?_
            obtain ⟨⟨t283_1, t283_2, t283_3, t283_4⟩, h283, hE_8⟩ := bind_some hE_8
            refine Tri.reg (l := [0, 1, 2, 3, 4, 5, 6, 7, 8]) rfl ?_
            refine F.qn rfl (r_loadA ta27 ti27 rfl rfl (fun w hw => (box_cells (i := 0) rfl w hw))) (F.qn rfl (r_move rfl) ?_)
            refine F.mn rfl (m_callF (xs := _) rfl ok24 rfl rfl (fun w hw => impl_WithoutKeys.ok h283 w ((rd_sl (i := 2) rfl) w hw) ((rd_sl (i := 3) rfl) w hw))) ?_
            rintro _ _ ⟨_, ⟨v283_1, S283_1, v283_2, S283_2, rfl, hl_v283_1, hl_v283_2, rfl⟩, rfl⟩
            refine F.qn rfl (r_move rfl) (F.qn rfl (r_extract rfl rfl) (F.qn rfl (r_extract rfl rfl) ?_))
            refine F.mn rfl (m_alloc ti27) ?_
            rintro _ _ ⟨b36_1, rfl, rfl⟩
            refine F.ef0 rfl rfl (wanted_none rfl) (d_storeG0 (i := 0) (cs2 := [.int .i64 t283_1, v283_1, v283_2]) ti27 rfl rfl rfl rfl rfl (Nat.le_of_ble_eq_true rfl) (lf_cons rfl (lf_cons (sl_leaf hl_v283_1) (lf_cons (sl_leaf hl_v283_2) lf_nil)))) ?_
            rintro _ _ ⟨rfl, rfl⟩
            refine F.qn rfl (r_assign rfl) (F.nil (Nrm.seq (Tri.seq ?_)))
            obtain ⟨⟨t289_1, t289_2⟩, h289, hE_8⟩ := bind_some hE_8
            refine Tri.reg (l := [0, 1, 2, 3, 4, 5, 6, 7]) rfl ?_
            refine F.qn rfl (r_loadA ta27 ti27 rfl rfl (fun w hw => (box_cells (i := 0) rfl w hw))) (F.qn rfl (r_move rfl) ?_)
            refine F.qcn rfl (q_callF (xs := _) rfl ok20 rfl rfl (fun w hw => impl_CanWin.ok h289 w ((rd_sl (i := 1) rfl) w hw) ((rd_sl (i := 2) rfl) w hw))) ?_
            refine F.qn rfl (r_move rfl) (F.qn rfl (r_extract rfl rfl) (F.qn rfl (r_extract rfl rfl) (F.qn rfl (r_assign rfl) (F.qn rfl (r_assign rfl) (F.nil (Nrm.seq (Tri.seq ?_)))))))
            obtain ⟨y304, hE_9, hE_8⟩ := bind_some hE_8
            refine Tri.cut (fun e' C' => e' = [(3, .pointer (some ⟨b3_1, 0, none⟩)), (4, .int .i64 t58_4), (9, v76_1), (13, .int .i64 t88_1), (17, v100_1), (35, .int .i64 x35), (304, .bool y304)] ∧ C' = Sep w noM [R.box b3_1 27 [.int .i64 t58_1, v58_1, v58_2], R.sl S100_1 v100_1 (t100_1 : List (Int)), R.sl S58_1 v58_1 (t58_2 : List (Int × Int × Int)), R.sl S58_2 v58_2 (t58_3 : List (Int)), R.sl S76_1 v76_1 (t76_1 : List (Int))]) ?_ (fun hj_6 => ?_)
            ·rintro _ _ ⟨rfl, rfl⟩
             refine Nrm.seq (Tri.cond (b := y304) rfl (fun g_12 => ?_) (fun g_12 => ?_))
             ·replace hE_8 := if_tt g_12 hE_8
              refine Tri.seq (Tri.reg (l := [0]) rfl ?_)
              refine F.qn rfl (r_assign rfl) (F.nil (Nrm.seq (Tri.ret ?_)))
              refine Rtn.block ?_
              refine Rtn.then ?_
              refine Rtn.then ?_
              refine Rtn.block ?_
              refine Rtn.then ?_
              cases hE_8
              replace h := Lr_inr h
              cases h
              exact Rtn.body (.tmp rfl .nil) (fun w hw => ⟨rfl, hw.ext⟩)
             ·replace hE_8 := if_ff g_12 hE_8
              refine Tri.skip (Nrm.block ?_)
              refine Nrm.seq (Tri.reg (l := [0, 1, 2]) rfl ?_)
              refine F.qn rfl (r_move rfl) (F.qn rfl (r_add rfl rfl) (F.qn rfl (r_assign rfl) (F.nil (Nrm.round ?_))))
              refine Rnd.only [3, 4, 9, 13, 17, 35] rfl ?_
              refine Rnd.pick [0, 1, 2, 3, 4] rfl rfl ?_
              exact ih_3 _ _ ⟨w64 (x35 + 1), hE_8, rfl, rfl⟩
            ·rcases Bool.eq_false_or_eq_true (!t283_4) with g294 | g294
             ·replace hE_9 := if_tt g294 hE_9
              refine Tri.reg (l := List.range 13) rfl ?_
              refine F.qn rfl (r_move rfl) ?_
              refine F.qn rfl (r_not rfl) (F.qn rfl (r_move rfl) (F.skf rfl g294 (F.skf rfl g294 (F.qn rfl (r_pick rfl rfl g294) (F.qn rfl (r_move rfl) ?_)))))
              iterate 5 refine F.skf rfl rfl ?_
              refine F.qn rfl (r_pick rfl rfl rfl) (F.nil ?_)
              cases hE_9
              refine Nrm.only [3, 4, 9, 13, 17, 35, 304] rfl ?_
              refine Nrm.pick [3, 4, 5, 6, 7] rfl rfl ?_
              exact hj_6 _ _ ⟨rfl, rfl⟩
             ·replace hE_9 := if_ff g294 hE_9
              rcases Bool.eq_false_or_eq_true (!t289_2) with g298 | g298
              ·replace hE_9 := if_tt g298 hE_9
               refine Tri.reg (l := List.range 13) rfl ?_
               refine F.qn rfl (r_move rfl) ?_
               refine F.qn rfl (r_not rfl) (F.qn rfl (r_move rfl) (F.qg rfl g294 (r_move rfl) (F.qg rfl g294 (r_not rfl) (F.qn rfl (r_pickf rfl rfl g294) (F.qn rfl (r_move rfl) ?_)))))
               iterate 5 refine F.skf rfl g298 ?_
               refine F.qn rfl (r_pick rfl rfl g298) (F.nil ?_)
               cases hE_9
               refine Nrm.only [3, 4, 9, 13, 17, 35, 304] rfl ?_
               refine Nrm.pick [3, 4, 5, 6, 7] rfl rfl ?_
               exact hj_6 _ _ ⟨rfl, rfl⟩
              ·replace hE_9 := if_ff g298 hE_9
               obtain ⟨t302, h302, hE_9⟩ := bind_some hE_9
               refine Tri.reg (l := List.range 13) rfl ?_
               refine F.qn rfl (r_move rfl) ?_
               refine F.qn rfl (r_not rfl) (F.qn rfl (r_move rfl) (F.qg rfl g294 (r_move rfl) (F.qg rfl g294 (r_not rfl) (F.qn rfl (r_pickf rfl rfl g294) (F.qn rfl (r_move rfl) ?_)))))
               iterate 3 refine F.qg rfl g298 (r_move rfl) ?_
               refine F.qc rfl rfl rfl (wg rfl rfl rfl g298) (q_callF (xs := _) rfl ok22 rfl rfl (fun w hw => laws_vHas.ok h302 w ((rd_sl (i := 4) rfl) w hw))) ?_
               refine F.qg rfl g298 (r_neqB Tryz.underlying4 rfl rfl) (F.qn rfl (r_pickf rfl rfl g298) (F.nil ?_))
               cases hE_9
               refine Nrm.only [3, 4, 9, 13, 17, 35, 304] rfl ?_
               refine Nrm.pick [3, 4, 5, 6, 7] rfl rfl ?_
               exact hj_6 _ _ ⟨rfl, rfl⟩
           ·replace hE_8 := if_ff g_11 hE_8
            refine Tri.exit ?_
            refine Exi.then ?_
            refine Exi.then ?_
            refine Exi.same ?_
            cases hE_8
            replace h := Lr_inl h
            refine Nrm.seq (Tri.seq (Tri.seq (Tri.reg (l := [0]) rfl ?_)))
            refine F.qn rfl (r_assign rfl) (F.nil (Nrm.seq ?_))
            obtain ⟨s3, hE_10, h⟩ := bind_some h
            refine Tri.block ?_
            refine Tri.only [3, 4, 9, 13, 40] rfl ?_
            refine Tri.pick [0, 2, 3, 4] rfl rfl ?_
            refine Tri.rounds (fun n e' C' => ∃ (x40' : Int), laws_FnRequired.l3 k t58_1 t58_2 t58_3 t58_4 t76_1 n x40' = some s3 ∧ e' = [(3, .pointer (some ⟨b3_1, 0, none⟩)), (4, .int .i64 t58_4), (9, v76_1), (13, .int .i64 t88_1), (40, .int .i64 x40')] ∧ C' = Sep w noM [R.box b3_1 27 [.int .i64 t58_1, v58_1, v58_2], R.sl S58_1 v58_1 (t58_2 : List (Int × Int × Int)), R.sl S58_2 v58_2 (t58_3 : List (Int)), R.sl S76_1 v76_1 (t76_1 : List (Int))]) k ?_ ?_ ?_
            ·exact ⟨0, hE_10, rfl, rfl⟩
            ·rintro _ _ ⟨_, hE_10, _⟩
             rw [laws_FnRequired.l3.eq_1] at hE_10; cases hE_10
            ·rintro n_4 _ _ ⟨x40, hE_10, rfl, rfl⟩ ih_4
             rw [laws_FnRequired.l3.eq_2] at hE_10
             refine Tri.seq (Tri.seq (Tri.reg (l := [0, 1, 2, 3, 4]) rfl ?_))
             refine F.qn rfl (r_move rfl) (F.qn rfl (r_fieldAddr tf27_1 rfl) (F.qn rfl (r_load ta24 rfl (fun w hw => cell_1 (box_cells (i := 0) rfl w hw) rfl)) (F.qn rfl (r_len Tryz.underlying24 rfl hl_v58_1) (F.qn rfl (r_lss rfl rfl) (F.nil (Nrm.seq (Tri.cond (b := decide (x40 < (t58_2.length : Int))) rfl (fun g_13 => ?_) (fun g_13 => ?_))))))))
             ·replace hE_10 := if_tt g_13 hE_10
              refine Tri.skip (Nrm.seq (Tri.seq (Tri.block ?_)))
              refine Tri.seq ?_
              obtain ⟨⟨t315_1, t315_2, t315_3, t315_4⟩, h315, hE_10⟩ := bind_some hE_10
              refine Tri.reg (l := [0, 1, 2, 3, 4, 5, 6, 7, 8]) rfl ?_
              refine F.qn rfl (r_loadA ta27 ti27 rfl rfl (fun w hw => (box_cells (i := 0) rfl w hw))) (F.qn rfl (r_move rfl) ?_)
              refine F.mn rfl (m_callF (xs := _) rfl ok25 rfl rfl (fun w hw => impl_DropDoor.ok h315 w ((rd_sl (i := 1) rfl) w hw) ((rd_sl (i := 2) rfl) w hw))) ?_
              rintro _ _ ⟨_, ⟨v315_1, S315_1, v315_2, S315_2, rfl, hl_v315_1, hl_v315_2, rfl⟩, rfl⟩
              refine F.qn rfl (r_move rfl) (F.qn rfl (r_extract rfl rfl) (F.qn rfl (r_extract rfl rfl) ?_))
              refine F.mn rfl (m_alloc ti27) ?_
              rintro _ _ ⟨b41_1, rfl, rfl⟩
              refine F.ef0 rfl rfl (wanted_none rfl) (d_storeG0 (i := 0) (cs2 := [.int .i64 t315_1, v315_1, v315_2]) ti27 rfl rfl rfl rfl rfl (Nat.le_of_ble_eq_true rfl) (lf_cons rfl (lf_cons (sl_leaf hl_v315_1) (lf_cons (sl_leaf hl_v315_2) lf_nil)))) ?_
              rintro _ _ ⟨rfl, rfl⟩
              refine F.qn rfl (r_assign rfl) (F.nil (Nrm.seq (Tri.seq ?_)))
              obtain ⟨⟨t321_1, t321_2⟩, h321, hE_10⟩ := bind_some hE_10
              refine Tri.reg (l := [0, 1, 2, 3, 4, 5, 6, 7]) rfl ?_
              refine F.qn rfl (r_loadA ta27 ti27 rfl rfl (fun w hw => (box_cells (i := 0) rfl w hw))) (F.qn rfl (r_move rfl) ?_)
              refine F.qcn rfl (q_callF (xs := _) rfl ok20 rfl rfl (fun w hw => impl_CanWin.ok h321 w ((rd_sl (i := 1) rfl) w hw) ((rd_sl (i := 2) rfl) w hw))) ?_
              refine F.qn rfl (r_move rfl) (F.qn rfl (r_extract rfl rfl) (F.qn rfl (r_extract rfl rfl) (F.qn rfl (r_assign rfl) (F.qn rfl (r_assign rfl) (F.nil (Nrm.seq (Tri.seq ?_)))))))
              obtain ⟨y336, hE_11, hE_10⟩ := bind_some hE_10
              refine Tri.cut (fun e' C' => e' = [(3, .pointer (some ⟨b3_1, 0, none⟩)), (4, .int .i64 t58_4), (9, v76_1), (13, .int .i64 t88_1), (40, .int .i64 x40), (336, .bool y336)] ∧ C' = Sep w noM [R.box b3_1 27 [.int .i64 t58_1, v58_1, v58_2], R.sl S58_1 v58_1 (t58_2 : List (Int × Int × Int)), R.sl S58_2 v58_2 (t58_3 : List (Int)), R.sl S76_1 v76_1 (t76_1 : List (Int))]) ?_ (fun hj_7 => ?_)
              ·rintro _ _ ⟨rfl, rfl⟩
               refine Nrm.seq (Tri.cond (b := y336) rfl (fun g_14 => ?_) (fun g_14 => ?_))
               ·replace hE_10 := if_tt g_14 hE_10
                refine Tri.seq (Tri.reg (l := [0]) rfl ?_)
                refine F.qn rfl (r_assign rfl) (F.nil (Nrm.seq (Tri.ret ?_)))
                refine Rtn.block ?_
                refine Rtn.then ?_
                refine Rtn.then ?_
                refine Rtn.block ?_
                refine Rtn.then ?_
                cases hE_10
                replace h := Lr_inr h
                cases h
                exact Rtn.body (.tmp rfl .nil) (fun w hw => ⟨rfl, hw.ext⟩)
               ·replace hE_10 := if_ff g_14 hE_10
                refine Tri.skip (Nrm.block ?_)
                refine Nrm.seq (Tri.reg (l := [0, 1, 2]) rfl ?_)
                refine F.qn rfl (r_move rfl) (F.qn rfl (r_add rfl rfl) (F.qn rfl (r_assign rfl) (F.nil (Nrm.round ?_))))
                refine Rnd.only [3, 4, 9, 13, 40] rfl ?_
                refine Rnd.pick [0, 1, 2, 3] rfl rfl ?_
                exact ih_4 _ _ ⟨w64 (x40 + 1), hE_10, rfl, rfl⟩
              ·rcases Bool.eq_false_or_eq_true (!t315_4) with g326 | g326
               ·replace hE_11 := if_tt g326 hE_11
                refine Tri.reg (l := List.range 13) rfl ?_
                refine F.qn rfl (r_move rfl) ?_
                refine F.qn rfl (r_not rfl) (F.qn rfl (r_move rfl) (F.skf rfl g326 (F.skf rfl g326 (F.qn rfl (r_pick rfl rfl g326) (F.qn rfl (r_move rfl) ?_)))))
                iterate 5 refine F.skf rfl rfl ?_
                refine F.qn rfl (r_pick rfl rfl rfl) (F.nil ?_)
                cases hE_11
                refine Nrm.only [3, 4, 9, 13, 40, 336] rfl ?_
                refine Nrm.pick [3, 4, 5, 6] rfl rfl ?_
                exact hj_7 _ _ ⟨rfl, rfl⟩
               ·replace hE_11 := if_ff g326 hE_11
                rcases Bool.eq_false_or_eq_true (!t321_2) with g330 | g330
                ·replace hE_11 := if_tt g330 hE_11
                 refine Tri.reg (l := List.range 13) rfl ?_
                 refine F.qn rfl (r_move rfl) ?_
                 refine F.qn rfl (r_not rfl) (F.qn rfl (r_move rfl) (F.qg rfl g326 (r_move rfl) (F.qg rfl g326 (r_not rfl) (F.qn rfl (r_pickf rfl rfl g326) (F.qn rfl (r_move rfl) ?_)))))
                 iterate 5 refine F.skf rfl g330 ?_
                 refine F.qn rfl (r_pick rfl rfl g330) (F.nil ?_)
                 cases hE_11
                 refine Nrm.only [3, 4, 9, 13, 40, 336] rfl ?_
                 refine Nrm.pick [3, 4, 5, 6] rfl rfl ?_
                 exact hj_7 _ _ ⟨rfl, rfl⟩
                ·replace hE_11 := if_ff g330 hE_11
                 obtain ⟨t334, h334, hE_11⟩ := bind_some hE_11
                 refine Tri.reg (l := List.range 13) rfl ?_
                 refine F.qn rfl (r_move rfl) ?_
                 refine F.qn rfl (r_not rfl) (F.qn rfl (r_move rfl) (F.qg rfl g326 (r_move rfl) (F.qg rfl g326 (r_not rfl) (F.qn rfl (r_pickf rfl rfl g326) (F.qn rfl (r_move rfl) ?_)))))
                 iterate 3 refine F.qg rfl g330 (r_move rfl) ?_
                 refine F.qc rfl rfl rfl (wg rfl rfl rfl g330) (q_callF (xs := _) rfl ok22 rfl rfl (fun w hw => laws_vHas.ok h334 w ((rd_sl (i := 6) rfl) w hw))) ?_
                 refine F.qg rfl g330 (r_eqlB Tryz.underlying4 rfl rfl) (F.qn rfl (r_pickf rfl rfl g330) (F.nil ?_))
                 cases hE_11
                 refine Nrm.only [3, 4, 9, 13, 40, 336] rfl ?_
                 refine Nrm.pick [3, 4, 5, 6] rfl rfl ?_
                 exact hj_7 _ _ ⟨rfl, rfl⟩
             ·replace hE_10 := if_ff g_13 hE_10
              refine Tri.exit ?_
              refine Exi.then ?_
              refine Exi.then ?_
              refine Exi.same ?_
              cases hE_10
              replace h := Lr_inl h
              refine Nrm.seq (Tri.seq ?_)
              obtain ⟨⟨t339_1, t339_2⟩, h339, h⟩ := bind_some h
              refine Tri.reg (l := [0, 1, 2, 3, 4, 5, 6]) rfl ?_
              refine F.qn rfl (r_loadA ta27 ti27 rfl rfl (fun w hw => (box_cells (i := 0) rfl w hw))) ?_
              refine F.mn rfl (m_callF (xs := _) rfl ok26 rfl rfl (fun w hw => impl_LeastWins.ok h339 w ((rd_sl (i := 1) rfl) w hw) ((rd_sl (i := 2) rfl) w hw))) ?_
              rintro _ _ ⟨_, ⟨v339_1, S339_1, rfl, hl_v339_1, rfl⟩, rfl⟩
              refine F.qn rfl (r_move rfl) (F.qn rfl (r_extract rfl rfl) (F.qn rfl (r_extract rfl rfl) (F.qn rfl (r_assign rfl) (F.qn rfl (r_assign rfl) (F.nil (Nrm.seq (Tri.seq (Tri.seq (Tri.reg (l := [0]) rfl ?_)))))))))
              refine F.qn rfl (r_assign rfl) (F.nil (Nrm.seq ?_))
              obtain ⟨s4, hE_12, h⟩ := bind_some h
              refine Tri.block ?_
              refine Tri.only [3, 4, 13, 45, 46, 47] rfl ?_
              refine Tri.pick [1, 0, 2, 3] rfl rfl ?_
              refine Tri.rounds (fun n e' C' => ∃ (x47' : Int), laws_FnRequired.l4 k t58_1 t58_2 t58_3 t58_4 t88_1 t339_1 t339_2 n x47' = some s4 ∧ e' = [(3, .pointer (some ⟨b3_1, 0, none⟩)), (4, .int .i64 t58_4), (13, .int .i64 t88_1), (45, v339_1), (46, .bool t339_2), (47, .int .i64 x47')] ∧ C' = Sep w noM [R.box b3_1 27 [.int .i64 t58_1, v58_1, v58_2], R.sl S339_1 v339_1 (t339_1 : List (Int)), R.sl S58_1 v58_1 (t58_2 : List (Int × Int × Int)), R.sl S58_2 v58_2 (t58_3 : List (Int))]) k ?_ ?_ ?_
              ·exact ⟨0, hE_12, rfl, rfl⟩
              ·rintro _ _ ⟨_, hE_12, _⟩
               rw [laws_FnRequired.l4.eq_1] at hE_12; cases hE_12
              ·rintro n_5 _ _ ⟨x47, hE_12, rfl, rfl⟩ ih_5
               rw [laws_FnRequired.l4.eq_2] at hE_12
               refine Tri.seq (Tri.seq (Tri.reg (l := [0, 1]) rfl ?_))
               refine F.qn rfl (r_move rfl) (F.qn rfl (r_lss rfl rfl) (F.nil (Nrm.seq (Tri.cond (b := decide (x47 < 6)) rfl (fun g_15 => ?_) (fun g_15 => ?_)))))
               ·replace hE_12 := if_tt g_15 hE_12
                refine Tri.skip (Nrm.seq (Tri.seq (Tri.block ?_)))
                refine Tri.seq ?_
                obtain ⟨⟨t349_1, t349_2, t349_3, t349_4⟩, h349, hE_12⟩ := bind_some hE_12
                refine Tri.reg (l := [0, 1, 2, 3, 4, 5, 6, 7, 8]) rfl ?_
                refine F.qn rfl (r_loadA ta27 ti27 rfl rfl (fun w hw => (box_cells (i := 0) rfl w hw))) (F.qn rfl (r_move rfl) ?_)
                refine F.mn rfl (m_callF (xs := _) rfl ok27 rfl rfl (fun w hw => impl_WithoutColour.ok h349 w ((rd_sl (i := 2) rfl) w hw) ((rd_sl (i := 3) rfl) w hw))) ?_
                rintro _ _ ⟨_, ⟨v349_1, S349_1, v349_2, S349_2, rfl, hl_v349_1, hl_v349_2, rfl⟩, rfl⟩
                refine F.qn rfl (r_move rfl) (F.qn rfl (r_extract rfl rfl) (F.qn rfl (r_extract rfl rfl) ?_))
                refine F.mn rfl (m_alloc ti27) ?_
                rintro _ _ ⟨b48_1, rfl, rfl⟩
                refine F.ef0 rfl rfl (wanted_none rfl) (d_storeG0 (i := 0) (cs2 := [.int .i64 t349_1, v349_1, v349_2]) ti27 rfl rfl rfl rfl rfl (Nat.le_of_ble_eq_true rfl) (lf_cons rfl (lf_cons (sl_leaf hl_v349_1) (lf_cons (sl_leaf hl_v349_2) lf_nil)))) ?_
                rintro _ _ ⟨rfl, rfl⟩
                refine F.qn rfl (r_assign rfl) (F.nil (Nrm.seq (Tri.seq ?_)))
                obtain ⟨⟨t355_1, t355_2⟩, h355, hE_12⟩ := bind_some hE_12
                refine Tri.reg (l := [0, 1, 2, 3, 4, 5, 6, 7]) rfl ?_
                refine F.qn rfl (r_loadA ta27 ti27 rfl rfl (fun w hw => (box_cells (i := 0) rfl w hw))) (F.qn rfl (r_move rfl) ?_)
                refine F.qcn rfl (q_callF (xs := _) rfl ok20 rfl rfl (fun w hw => impl_CanWin.ok h355 w ((rd_sl (i := 1) rfl) w hw) ((rd_sl (i := 2) rfl) w hw))) ?_
                refine F.qn rfl (r_move rfl) (F.qn rfl (r_extract rfl rfl) (F.qn rfl (r_extract rfl rfl) (F.qn rfl (r_assign rfl) (F.qn rfl (r_assign rfl) (F.nil (Nrm.seq (Tri.seq (Tri.seq ?_))))))))
                obtain ⟨y372, hE_13, hE_12⟩ := bind_some hE_12
                refine Tri.cut (fun e' C' => e' = [(3, .pointer (some ⟨b3_1, 0, none⟩)), (4, .int .i64 t58_4), (13, .int .i64 t88_1), (45, v339_1), (46, .bool t339_2), (47, .int .i64 x47), (372, .bool y372)] ∧ C' = Sep w noM [R.box b3_1 27 [.int .i64 t58_1, v58_1, v58_2], R.sl S339_1 v339_1 (t339_1 : List (Int)), R.sl S58_1 v58_1 (t58_2 : List (Int × Int × Int)), R.sl S58_2 v58_2 (t58_3 : List (Int))]) ?_ (fun hj_8 => ?_)
                ·rintro _ _ ⟨rfl, rfl⟩
                 refine Nrm.seq (Tri.cond (b := y372) rfl (fun g_16 => ?_) (fun g_16 => ?_))
                 ·replace hE_12 := if_tt g_16 hE_12
                  refine Tri.seq (Tri.reg (l := [0]) rfl ?_)
                  refine F.qn rfl (r_assign rfl) (F.nil (Nrm.seq (Tri.ret ?_)))
                  refine Rtn.then ?_
                  refine Rtn.block ?_
                  refine Rtn.then ?_
                  refine Rtn.then ?_
                  refine Rtn.block ?_
                  refine Rtn.then ?_
                  cases hE_12
                  replace h := Lr_inr h
                  cases h
                  exact Rtn.body (.tmp rfl .nil) (fun w hw => ⟨rfl, hw.ext⟩)
                 ·replace hE_12 := if_ff g_16 hE_12
                  refine Tri.skip (Nrm.seq (Tri.seq (Tri.reg (l := [0]) rfl ?_)))
                  refine F.qn rfl (r_assign rfl) (F.nil (Nrm.seq (Tri.seq (Tri.seq (Tri.reg (l := [0]) rfl ?_)))))
                  refine F.qn rfl (r_assign rfl) (F.nil (Nrm.seq ?_))
                  obtain ⟨x52, hE_14, hE_12⟩ := bind_some hE_12
                  refine Tri.block ?_
                  refine Tri.only [3, 4, 13, 45, 46, 47, 52, 53] rfl ?_
                  refine Tri.pick [0, 1, 2, 3] rfl rfl ?_
                  refine Tri.rounds (fun n e' C' => ∃ (x52' : Bool) (x53' : Int), laws_FnRequired.l5 k t339_1 x47 n x52' x53' = some x52 ∧ e' = [(3, .pointer (some ⟨b3_1, 0, none⟩)), (4, .int .i64 t58_4), (13, .int .i64 t88_1), (45, v339_1), (46, .bool t339_2), (47, .int .i64 x47), (52, .bool x52'), (53, .int .i64 x53')] ∧ C' = Sep w noM [R.box b3_1 27 [.int .i64 t58_1, v58_1, v58_2], R.sl S339_1 v339_1 (t339_1 : List (Int)), R.sl S58_1 v58_1 (t58_2 : List (Int × Int × Int)), R.sl S58_2 v58_2 (t58_3 : List (Int))]) k ?_ ?_ ?_
                  ·exact ⟨true, 0, hE_14, rfl, rfl⟩
                  ·rintro _ _ ⟨_, _, hE_14, _⟩
                   rw [laws_FnRequired.l5.eq_1] at hE_14; cases hE_14
                  ·rintro n_6 _ _ ⟨x52, x53, hE_14, rfl, rfl⟩ ih_6
                   rw [laws_FnRequired.l5.eq_2] at hE_14
                   refine Tri.seq (Tri.seq (Tri.reg (l := [0, 1, 2, 3]) rfl ?_))
                   refine F.qn rfl (r_move rfl) (F.qn rfl (r_move rfl) (F.qn rfl (r_len Tryz.underlying25 rfl hl_v339_1) (F.qn rfl (r_lss rfl rfl) (F.nil (Nrm.seq (Tri.cond (b := decide (x53 < (t339_1.length : Int))) rfl (fun g_17 => ?_) (fun g_17 => ?_)))))))
                   ·replace hE_14 := if_tt g_17 hE_14
                    refine Tri.skip (Nrm.seq (Tri.seq (Tri.block ?_)))
                    obtain ⟨y52, hE_15, hE_14⟩ := bind_some hE_14
                    refine Tri.cut (fun e' C' => e' = [(3, .pointer (some ⟨b3_1, 0, none⟩)), (4, .int .i64 t58_4), (13, .int .i64 t88_1), (45, v339_1), (46, .bool t339_2), (47, .int .i64 x47), (52, .bool y52), (53, .int .i64 x53)] ∧ C' = Sep w noM [R.box b3_1 27 [.int .i64 t58_1, v58_1, v58_2], R.sl S339_1 v339_1 (t339_1 : List (Int)), R.sl S58_1 v58_1 (t58_2 : List (Int × Int × Int)), R.sl S58_2 v58_2 (t58_3 : List (Int))]) ?_ (fun hj_9 => ?_)
                    ·rintro _ _ ⟨rfl, rfl⟩
                     refine Nrm.block ?_
                     refine Nrm.seq (Tri.reg (l := [0, 1, 2]) rfl ?_)
                     refine F.qn rfl (r_move rfl) (F.qn rfl (r_add rfl rfl) (F.qn rfl (r_assign rfl) (F.nil (Nrm.round ?_))))
                     refine Rnd.only [3, 4, 13, 45, 46, 47, 52, 53] rfl ?_
                     refine Rnd.pick [0, 1, 2, 3] rfl rfl ?_
                     exact ih_6 _ _ ⟨y52, w64 (x53 + 1), hE_14, rfl, rfl⟩
                    ·rcases Bool.eq_false_or_eq_true (x52) with g380 | g380
                     ·replace hE_15 := if_tt g380 hE_15
                      obtain ⟨t383, h383, hE_15⟩ := bind_some hE_15
                      obtain ⟨hs386, hE_15⟩ := ck hE_15
                      refine Tri.reg (l := List.range 12) rfl ?_
                      refine F.qn rfl (r_move rfl) (F.qn rfl (r_move rfl) (F.qg rfl g380 (r_move rfl) (F.qg rfl g380 (r_move rfl) (F.qg rfl g380 (r_indexAddrS Tryz.underlying25 ti3 rfl hl_v339_1 rfl (rdl_some h383).1 (rdl_some h383).2.1) (F.qg rfl g380 (r_load ta3 rfl (fun w hw => cell_0 (Rd.flat ((rd_sl (i := 1) rfl) w hw) (rdl_some h383).2.2) rfl)) ?_)))))
                      refine F.qg rfl g380 (r_move rfl) (F.qg rfl g380 (r_shr rfl rfl hs386) (F.qg rfl g380 (r_and rfl rfl) (F.qg rfl g380 (r_eql rfl rfl) (F.qn rfl (r_pick rfl rfl g380) (F.qn rfl (r_assign rfl) (F.nil ?_))))))
                      cases hE_15
                      refine Nrm.only [3, 4, 13, 45, 46, 47, 52, 53] rfl ?_
                      refine Nrm.pick [0, 1, 2, 3] rfl rfl ?_
                      exact hj_9 _ _ ⟨rfl, rfl⟩
                     ·replace hE_15 := if_ff g380 hE_15
                      refine Tri.reg (l := List.range 12) rfl ?_
                      refine F.qn rfl (r_move rfl) (F.qn rfl (r_move rfl) ?_)
                      iterate 8 refine F.skf rfl g380 ?_
                      refine F.qn rfl (r_pickf rfl rfl g380) (F.qn rfl (r_assign rfl) (F.nil ?_))
                      cases hE_15
                      refine Nrm.only [3, 4, 13, 45, 46, 47, 52, 53] rfl ?_
                      refine Nrm.pick [0, 1, 2, 3] rfl rfl ?_
                      exact hj_9 _ _ ⟨rfl, rfl⟩
                   ·replace hE_14 := if_ff g_17 hE_14
                    refine Tri.exit ?_
                    refine Exi.then ?_
                    refine Exi.then ?_
                    refine Exi.same ?_
                    cases hE_14
                    refine Nrm.seq (Tri.seq ?_)
                    obtain ⟨y403, hE_16, hE_12⟩ := bind_some hE_12
                    refine Tri.cut (fun e' C' => e' = [(3, .pointer (some ⟨b3_1, 0, none⟩)), (4, .int .i64 t58_4), (13, .int .i64 t88_1), (45, v339_1), (46, .bool t339_2), (47, .int .i64 x47), (403, .bool y403)] ∧ C' = Sep w noM [R.box b3_1 27 [.int .i64 t58_1, v58_1, v58_2], R.sl S339_1 v339_1 (t339_1 : List (Int)), R.sl S58_1 v58_1 (t58_2 : List (Int × Int × Int)), R.sl S58_2 v58_2 (t58_3 : List (Int))]) ?_ (fun hj_10 => ?_)
                    ·rintro _ _ ⟨rfl, rfl⟩
                     refine Nrm.seq (Tri.cond (b := y403) rfl (fun g_18 => ?_) (fun g_18 => ?_))
                     ·replace hE_12 := if_tt g_18 hE_12
                      refine Tri.seq (Tri.reg (l := [0]) rfl ?_)
                      refine F.qn rfl (r_assign rfl) (F.nil (Nrm.seq (Tri.ret ?_)))
                      refine Rtn.block ?_
                      refine Rtn.then ?_
                      refine Rtn.then ?_
                      refine Rtn.block ?_
                      refine Rtn.then ?_
                      cases hE_12
                      replace h := Lr_inr h
                      cases h
                      exact Rtn.body (.tmp rfl .nil) (fun w hw => ⟨rfl, hw.ext⟩)
                     ·replace hE_12 := if_ff g_18 hE_12
                      refine Tri.skip (Nrm.block ?_)
                      refine Nrm.seq (Tri.reg (l := [0, 1, 2]) rfl ?_)
                      refine F.qn rfl (r_move rfl) (F.qn rfl (r_add rfl rfl) (F.qn rfl (r_assign rfl) (F.nil (Nrm.round ?_))))
                      refine Rnd.only [3, 4, 13, 45, 46, 47] rfl ?_
                      refine Rnd.pick [0, 1, 2, 3] rfl rfl ?_
                      exact ih_5 _ _ ⟨w64 (x47 + 1), hE_12, rfl, rfl⟩
                    ·rcases Bool.eq_false_or_eq_true (t58_4 == 0) with g392 | g392
                     ·replace hE_16 := if_tt g392 hE_16
                      rcases Bool.eq_false_or_eq_true (t339_2) with g395 | g395
                      ·replace hE_16 := if_tt g395 hE_16
                       obtain ⟨hs399, hE_16⟩ := ck hE_16
                       refine Tri.reg (l := List.range 14) rfl ?_
                       refine F.qn rfl (r_move rfl) (F.qn rfl (r_eql rfl rfl) (F.qn rfl (r_move rfl) (F.qg rfl g392 (r_move rfl) (F.qn rfl (r_pick rfl rfl g392) (F.qn rfl (r_move rfl) ?_)))))
                       iterate 3 refine F.qg rfl g395 (r_move rfl) ?_
                       refine F.qg rfl g395 (r_shr rfl rfl hs399) (F.qg rfl g395 (r_and rfl rfl) (F.qg rfl g395 (r_eql rfl rfl) (F.qg rfl g395 (r_neqB Tryz.underlying4 rfl rfl) (F.qn rfl (r_pick rfl rfl g395) (F.nil ?_)))))
                       cases hE_16
                       refine Nrm.only [3, 4, 13, 45, 46, 47, 403] rfl ?_
                       refine Nrm.pick [0, 1, 2, 3] rfl rfl ?_
                       exact hj_10 _ _ ⟨rfl, rfl⟩
                      ·replace hE_16 := if_ff g395 hE_16
                       refine Tri.reg (l := List.range 14) rfl ?_
                       refine F.qn rfl (r_move rfl) (F.qn rfl (r_eql rfl rfl) (F.qn rfl (r_move rfl) (F.qg rfl g392 (r_move rfl) (F.qn rfl (r_pick rfl rfl g392) (F.qn rfl (r_move rfl) ?_)))))
                       iterate 7 refine F.skf rfl g395 ?_
                       refine F.qn rfl (r_pickf rfl rfl g395) (F.nil ?_)
                       cases hE_16
                       refine Nrm.only [3, 4, 13, 45, 46, 47, 403] rfl ?_
                       refine Nrm.pick [0, 1, 2, 3] rfl rfl ?_
                       exact hj_10 _ _ ⟨rfl, rfl⟩
                     ·replace hE_16 := if_ff g392 hE_16
                      refine Tri.reg (l := List.range 14) rfl ?_
                      refine F.qn rfl (r_move rfl) (F.qn rfl (r_eql rfl rfl) (F.qn rfl (r_move rfl) (F.skf rfl g392 (F.qn rfl (r_pickf rfl rfl g392) (F.qn rfl (r_move rfl) ?_)))))
                      iterate 7 refine F.skf rfl rfl ?_
                      refine F.qn rfl (r_pickf rfl rfl rfl) (F.nil ?_)
                      cases hE_16
                      refine Nrm.only [3, 4, 13, 45, 46, 47, 403] rfl ?_
                      refine Nrm.pick [0, 1, 2, 3] rfl rfl ?_
                      exact hj_10 _ _ ⟨rfl, rfl⟩
                ·rcases Bool.eq_false_or_eq_true (!t349_4) with g360 | g360
                 ·replace hE_13 := if_tt g360 hE_13
                  refine Tri.reg (l := List.range 15) rfl ?_
                  refine F.qn rfl (r_move rfl) ?_
                  refine F.qn rfl (r_not rfl) (F.qn rfl (r_move rfl) (F.skf rfl g360 (F.skf rfl g360 (F.qn rfl (r_pick rfl rfl g360) (F.qn rfl (r_move rfl) ?_)))))
                  iterate 7 refine F.skf rfl rfl ?_
                  refine F.qn rfl (r_pick rfl rfl rfl) (F.nil ?_)
                  cases hE_13
                  refine Nrm.only [3, 4, 13, 45, 46, 47, 372] rfl ?_
                  refine Nrm.pick [3, 4, 5, 6] rfl rfl ?_
                  exact hj_8 _ _ ⟨rfl, rfl⟩
                 ·replace hE_13 := if_ff g360 hE_13
                  rcases Bool.eq_false_or_eq_true (!t355_2) with g364 | g364
                  ·replace hE_13 := if_tt g364 hE_13
                   refine Tri.reg (l := List.range 15) rfl ?_
                   refine F.qn rfl (r_move rfl) ?_
                   refine F.qn rfl (r_not rfl) (F.qn rfl (r_move rfl) (F.qg rfl g360 (r_move rfl) (F.qg rfl g360 (r_not rfl) (F.qn rfl (r_pickf rfl rfl g360) (F.qn rfl (r_move rfl) ?_)))))
                   iterate 7 refine F.skf rfl g364 ?_
                   refine F.qn rfl (r_pick rfl rfl g364) (F.nil ?_)
                   cases hE_13
                   refine Nrm.only [3, 4, 13, 45, 46, 47, 372] rfl ?_
                   refine Nrm.pick [3, 4, 5, 6] rfl rfl ?_
                   exact hj_8 _ _ ⟨rfl, rfl⟩
                  ·replace hE_13 := if_ff g364 hE_13
                   obtain ⟨hs368, hE_13⟩ := ck hE_13
                   refine Tri.reg (l := List.range 15) rfl ?_
                   refine F.qn rfl (r_move rfl) ?_
                   refine F.qn rfl (r_not rfl) (F.qn rfl (r_move rfl) (F.qg rfl g360 (r_move rfl) (F.qg rfl g360 (r_not rfl) (F.qn rfl (r_pickf rfl rfl g360) (F.qn rfl (r_move rfl) ?_)))))
                   iterate 3 refine F.qg rfl g364 (r_move rfl) ?_
                   refine F.qg rfl g364 (r_shr rfl rfl hs368) (F.qg rfl g364 (r_and rfl rfl) (F.qg rfl g364 (r_eql rfl rfl) (F.qg rfl g364 (r_eqlB Tryz.underlying4 rfl rfl) (F.qn rfl (r_pickf rfl rfl g364) (F.nil ?_)))))
                   cases hE_13
                   refine Nrm.only [3, 4, 13, 45, 46, 47, 372] rfl ?_
                   refine Nrm.pick [3, 4, 5, 6] rfl rfl ?_
                   exact hj_8 _ _ ⟨rfl, rfl⟩
               ·replace hE_12 := if_ff g_15 hE_12
                refine Tri.exit ?_
                refine Exi.then ?_
                refine Exi.then ?_
                refine Exi.same ?_
                cases hE_12
                replace h := Lr_inl h
                refine Nrm.seq (Tri.seq (Tri.reg (l := [0]) rfl ?_))
                refine F.qn rfl (r_assign rfl) (F.nil (Nrm.seq (Tri.ret ?_)))
                cases h
                exact Rtn.body (.tmp rfl .nil) (fun w hw => ⟨rfl, hw.ext⟩)
    ·replace h := if_ff g_3 h
     refine Tri.skip (Nrm.seq (Tri.seq (Tri.seq (Tri.reg (l := [0, 1]) rfl ?_))))
     refine F.qn rfl (r_move rfl) (F.qn rfl (r_not rfl) (F.nil (Nrm.seq (Tri.cond (b := !t64_2) rfl (fun g_19 => ?_) (fun g_19 => ?_)))))
     ·replace h := if_tt g_19 h
      refine Tri.seq (Tri.reg (l := [0]) rfl ?_)
      refine F.qn rfl (r_assign rfl) (F.nil (Nrm.seq (Tri.ret ?_)))
      refine Rtn.then ?_
      cases h
      exact Rtn.body (.tmp rfl .nil) (fun w hw => ⟨rfl, hw.ext⟩)
     ·replace h := if_ff g_19 h
      refine Tri.skip (Nrm.seq (Tri.seq (Tri.seq (Tri.reg (l := [0]) rfl ?_))))
      refine F.qn rfl (r_assign rfl) (F.nil (Nrm.seq ?_))
      obtain ⟨s6, hE_17, h⟩ := bind_some h
      refine Tri.block ?_
      refine Tri.only [3, 4, 5, 9, 13, 17, 28] rfl ?_
      refine Tri.pick [0, 1, 2, 3, 4, 5] rfl rfl ?_
      refine Tri.rounds (fun n e' C' => ∃ (x28r' : Int), laws_FnRequired.l6 k t58_1 t58_2 t58_3 t58_4 t64_1 n x28r' = some s6 ∧ e' = [(3, .pointer (some ⟨b3_1, 0, none⟩)), (4, .int .i64 t58_4), (5, v64_1), (9, v76_1), (13, .int .i64 t88_1), (17, v100_1), (28, .int .i64 x28r')] ∧ C' = Sep w noM [R.box b3_1 27 [.int .i64 t58_1, v58_1, v58_2], R.sl S100_1 v100_1 (t100_1 : List (Int)), R.sl S58_1 v58_1 (t58_2 : List (Int × Int × Int)), R.sl S58_2 v58_2 (t58_3 : List (Int)), R.sl S64_1 v64_1 (t64_1 : List (Int)), R.sl S76_1 v76_1 (t76_1 : List (Int))]) k ?_ ?_ ?_
      ·exact ⟨1, hE_17, rfl, rfl⟩
      ·rintro _ _ ⟨_, hE_17, _⟩
       rw [laws_FnRequired.l6.eq_1] at hE_17; cases hE_17
      ·rintro n_7 _ _ ⟨x28r, hE_17, rfl, rfl⟩ ih_7
       rw [laws_FnRequired.l6.eq_2] at hE_17
       refine Tri.seq (Tri.seq (Tri.reg (l := [0, 1, 2, 3, 4]) rfl ?_))
       refine F.qn rfl (r_move rfl) (F.qn rfl (r_add rfl rfl) (F.qn rfl (r_fieldAddr tf27_0 rfl) (F.qn rfl (r_load ta3 rfl (fun w hw => cell_1 (box_cells (i := 0) rfl w hw) rfl)) (F.qn rfl (r_lss rfl rfl) (F.nil (Nrm.seq (Tri.cond (b := decide ((w64 (x28r + 1)) < t58_1)) rfl (fun g_20 => ?_) (fun g_20 => ?_))))))))
       ·replace hE_17 := if_tt g_20 hE_17
        refine Tri.skip (Nrm.seq (Tri.seq (Tri.block ?_)))
        refine Tri.seq ?_
        obtain ⟨⟨t230_1, t230_2, t230_3, t230_4⟩, h230, hE_17⟩ := bind_some hE_17
        refine Tri.reg (l := [0, 1, 2, 3, 4, 5, 6, 7, 8]) rfl ?_
        refine F.qn rfl (r_loadA ta27 ti27 rfl rfl (fun w hw => (box_cells (i := 0) rfl w hw))) (F.qn rfl (r_move rfl) ?_)
        refine F.mn rfl (m_callF (xs := _) rfl ok21 rfl rfl (fun w hw => impl_WithoutNode.ok h230 w ((rd_sl (i := 2) rfl) w hw) ((rd_sl (i := 3) rfl) w hw))) ?_
        rintro _ _ ⟨_, ⟨v230_3, S230_3, v230_4, S230_4, rfl, hl_v230_3, hl_v230_4, rfl⟩, rfl⟩
        refine F.qn rfl (r_move rfl) (F.qn rfl (r_extract rfl rfl) (F.qn rfl (r_extract rfl rfl) ?_))
        refine F.mn rfl (m_alloc ti27) ?_
        rintro _ _ ⟨b29_2, rfl, rfl⟩
        refine F.ef0 rfl rfl (wanted_none rfl) (d_storeG0 (i := 0) (cs2 := [.int .i64 t230_1, v230_3, v230_4]) ti27 rfl rfl rfl rfl rfl (Nat.le_of_ble_eq_true rfl) (lf_cons rfl (lf_cons (sl_leaf hl_v230_3) (lf_cons (sl_leaf hl_v230_4) lf_nil)))) ?_
        rintro _ _ ⟨rfl, rfl⟩
        refine F.qn rfl (r_assign rfl) (F.nil (Nrm.seq (Tri.seq ?_)))
        obtain ⟨⟨t236_1, t236_2⟩, h236, hE_17⟩ := bind_some hE_17
        refine Tri.reg (l := [0, 1, 2, 3, 4, 5, 6, 7]) rfl ?_
        refine F.qn rfl (r_loadA ta27 ti27 rfl rfl (fun w hw => (box_cells (i := 0) rfl w hw))) (F.qn rfl (r_move rfl) ?_)
        refine F.qcn rfl (q_callF (xs := _) rfl ok20 rfl rfl (fun w hw => impl_CanWin.ok h236 w ((rd_sl (i := 1) rfl) w hw) ((rd_sl (i := 2) rfl) w hw))) ?_
        refine F.qn rfl (r_move rfl) (F.qn rfl (r_extract rfl rfl) (F.qn rfl (r_extract rfl rfl) (F.qn rfl (r_assign rfl) (F.qn rfl (r_assign rfl) (F.nil (Nrm.seq (Tri.seq (Tri.seq ?_))))))))
        obtain ⟨y251r, hE_18, hE_17⟩ := bind_some hE_17
        refine Tri.cut (fun e' C' => e' = [(3, .pointer (some ⟨b3_1, 0, none⟩)), (4, .int .i64 t58_4), (5, v64_1), (9, v76_1), (13, .int .i64 t88_1), (17, v100_1), (28, .int .i64 x28r), (251, .bool y251r)] ∧ C' = Sep w noM [R.box b3_1 27 [.int .i64 t58_1, v58_1, v58_2], R.sl S100_1 v100_1 (t100_1 : List (Int)), R.sl S58_1 v58_1 (t58_2 : List (Int × Int × Int)), R.sl S58_2 v58_2 (t58_3 : List (Int)), R.sl S64_1 v64_1 (t64_1 : List (Int)), R.sl S76_1 v76_1 (t76_1 : List (Int))]) ?_ (fun hj_11 => ?_)
        ·rintro _ _ ⟨rfl, rfl⟩
         refine Nrm.seq (Tri.cond (b := y251r) rfl (fun g_21 => ?_) (fun g_21 => ?_))
         ·replace hE_17 := if_tt g_21 hE_17
          refine Tri.seq (Tri.reg (l := [0]) rfl ?_)
          refine F.qn rfl (r_assign rfl) (F.nil (Nrm.seq (Tri.ret ?_)))
          refine Rtn.then ?_
          refine Rtn.block ?_
          refine Rtn.then ?_
          refine Rtn.then ?_
          refine Rtn.block ?_
          refine Rtn.then ?_
          cases hE_17
          replace h := Lr_inr h
          cases h
          exact Rtn.body (.tmp rfl .nil) (fun w hw => ⟨rfl, hw.ext⟩)
         ·replace hE_17 := if_ff g_21 hE_17
          refine Tri.skip (Nrm.seq (Tri.seq ?_))
          obtain ⟨y258r, hE_19, hE_17⟩ := bind_some hE_17
          refine Tri.cut (fun e' C' => e' = [(3, .pointer (some ⟨b3_1, 0, none⟩)), (4, .int .i64 t58_4), (5, v64_1), (9, v76_1), (13, .int .i64 t88_1), (17, v100_1), (28, .int .i64 x28r), (258, .bool y258r)] ∧ C' = Sep w noM [R.box b3_1 27 [.int .i64 t58_1, v58_1, v58_2], R.sl S100_1 v100_1 (t100_1 : List (Int)), R.sl S58_1 v58_1 (t58_2 : List (Int × Int × Int)), R.sl S58_2 v58_2 (t58_3 : List (Int)), R.sl S64_1 v64_1 (t64_1 : List (Int)), R.sl S76_1 v76_1 (t76_1 : List (Int))]) ?_ (fun hj_12 => ?_)
          ·rintro _ _ ⟨rfl, rfl⟩
           refine Nrm.seq (Tri.cond (b := y258r) rfl (fun g_22 => ?_) (fun g_22 => ?_))
           ·replace hE_17 := if_tt g_22 hE_17
            refine Tri.seq ?_
            obtain ⟨⟨t265_1, t265_2⟩, h265, hE_17⟩ := bind_some hE_17
            refine Tri.reg (l := [0, 1, 2, 3, 4, 5, 6, 7, 8, 9, 10]) rfl ?_
            refine F.qn rfl (r_loadA ta27 ti27 rfl rfl (fun w hw => (box_cells (i := 0) rfl w hw))) (F.qn rfl (r_move rfl) (F.qn rfl (r_fieldAddr tf27_0 rfl) (F.qn rfl (r_load ta3 rfl (fun w hw => cell_1 (box_cells (i := 0) rfl w hw) rfl)) (F.qn rfl (r_sub rfl rfl) ?_))))
            refine F.qcn rfl (q_callF (xs := _) rfl ok23 rfl rfl (fun w hw => impl_Precedes.ok h265 w ((rd_sl (i := 2) rfl) w hw) ((rd_sl (i := 3) rfl) w hw))) ?_
            refine F.qn rfl (r_move rfl) (F.qn rfl (r_extract rfl rfl) (F.qn rfl (r_extract rfl rfl) (F.qn rfl (r_assign rfl) (F.qn rfl (r_assign rfl) (F.nil (Nrm.seq (Tri.seq ?_)))))))
            obtain ⟨y273r, hE_20, hE_17⟩ := bind_some hE_17
            refine Tri.cut (fun e' C' => e' = [(3, .pointer (some ⟨b3_1, 0, none⟩)), (4, .int .i64 t58_4), (5, v64_1), (9, v76_1), (13, .int .i64 t88_1), (17, v100_1), (28, .int .i64 x28r), (273, .bool y273r)] ∧ C' = Sep w noM [R.box b3_1 27 [.int .i64 t58_1, v58_1, v58_2], R.sl S100_1 v100_1 (t100_1 : List (Int)), R.sl S58_1 v58_1 (t58_2 : List (Int × Int × Int)), R.sl S58_2 v58_2 (t58_3 : List (Int)), R.sl S64_1 v64_1 (t64_1 : List (Int)), R.sl S76_1 v76_1 (t76_1 : List (Int))]) ?_ (fun hj_13 => ?_)
            ·rintro _ _ ⟨rfl, rfl⟩
             refine Nrm.seq (Tri.cond (b := y273r) rfl (fun g_23 => ?_) (fun g_23 => ?_))
             ·replace hE_17 := if_tt g_23 hE_17
              refine Tri.seq (Tri.reg (l := [0]) rfl ?_)
              refine F.qn rfl (r_assign rfl) (F.nil (Nrm.seq (Tri.ret ?_)))
              refine Rtn.block ?_
              refine Rtn.then ?_
              refine Rtn.then ?_
              refine Rtn.block ?_
              refine Rtn.then ?_
              cases hE_17
              replace h := Lr_inr h
              cases h
              exact Rtn.body (.tmp rfl .nil) (fun w hw => ⟨rfl, hw.ext⟩)
             ·replace hE_17 := if_ff g_23 hE_17
              refine Tri.skip (Nrm.block ?_)
              refine Nrm.seq (Tri.reg (l := [0, 1, 2]) rfl ?_)
              refine F.qn rfl (r_move rfl) (F.qn rfl (r_add rfl rfl) (F.qn rfl (r_assign rfl) (F.nil (Nrm.round ?_))))
              refine Rnd.only [3, 4, 5, 9, 13, 17, 28] rfl ?_
              refine Rnd.pick [0, 1, 2, 3, 4, 5] rfl rfl ?_
              exact ih_7 _ _ ⟨w64 (x28r + 1), hE_17, rfl, rfl⟩
            ·rcases Bool.eq_false_or_eq_true (!t265_2) with g270 | g270
             ·replace hE_20 := if_tt g270 hE_20
              refine Tri.reg (l := [0, 1, 2, 3, 4, 5]) rfl ?_
              refine F.qn rfl (r_move rfl) (F.qn rfl (r_not rfl) (F.qn rfl (r_move rfl) (F.skf rfl g270 (F.skf rfl g270 (F.qn rfl (r_pick rfl rfl g270) (F.nil ?_))))))
              cases hE_20
              refine Nrm.only [3, 4, 5, 9, 13, 17, 28, 273] rfl ?_
              refine Nrm.pick [0, 1, 2, 3, 4, 5] rfl rfl ?_
              exact hj_13 _ _ ⟨rfl, rfl⟩
             ·replace hE_20 := if_ff g270 hE_20
              refine Tri.reg (l := [0, 1, 2, 3, 4, 5]) rfl ?_
              refine F.qn rfl (r_move rfl) (F.qn rfl (r_not rfl) (F.qn rfl (r_move rfl) (F.qg rfl g270 (r_move rfl) (F.qg rfl g270 (r_not rfl) (F.qn rfl (r_pickf rfl rfl g270) (F.nil ?_))))))
              cases hE_20
              refine Nrm.only [3, 4, 5, 9, 13, 17, 28, 273] rfl ?_
              refine Nrm.pick [0, 1, 2, 3, 4, 5] rfl rfl ?_
              exact hj_13 _ _ ⟨rfl, rfl⟩
           ·replace hE_17 := if_ff g_22 hE_17
            refine Tri.skip (Nrm.block ?_)
            refine Nrm.seq (Tri.reg (l := [0, 1, 2]) rfl ?_)
            refine F.qn rfl (r_move rfl) (F.qn rfl (r_add rfl rfl) (F.qn rfl (r_assign rfl) (F.nil (Nrm.round ?_))))
            refine Rnd.only [3, 4, 5, 9, 13, 17, 28] rfl ?_
            refine Rnd.pick [0, 1, 2, 3, 4, 5] rfl rfl ?_
            exact ih_7 _ _ ⟨w64 (x28r + 1), hE_17, rfl, rfl⟩
          ·obtain ⟨t254, h254, hE_19⟩ := bind_some hE_19
           rcases Bool.eq_false_or_eq_true (t254) with g255 | g255
           ·replace hE_19 := if_tt g255 hE_19
            refine Tri.reg (l := [0, 1, 2, 3, 4, 5, 6]) rfl ?_
            refine F.qn rfl (r_move rfl) (F.qn rfl (r_move rfl) ?_)
            refine F.qcn rfl (q_callF (xs := _) rfl ok22 rfl rfl (fun w hw => laws_vHas.ok h254 w ((rd_sl (i := 4) rfl) w hw))) ?_
            refine F.qn rfl (r_move rfl) (F.qg rfl g255 (r_move rfl) (F.qg rfl g255 (r_eql rfl rfl) (F.qn rfl (r_pick rfl rfl g255) (F.nil ?_))))
            cases hE_19
            refine Nrm.only [3, 4, 5, 9, 13, 17, 28, 258] rfl ?_
            refine Nrm.pick [0, 1, 2, 3, 4, 5] rfl rfl ?_
            exact hj_12 _ _ ⟨rfl, rfl⟩
           ·replace hE_19 := if_ff g255 hE_19
            refine Tri.reg (l := [0, 1, 2, 3, 4, 5, 6]) rfl ?_
            refine F.qn rfl (r_move rfl) (F.qn rfl (r_move rfl) ?_)
            refine F.qcn rfl (q_callF (xs := _) rfl ok22 rfl rfl (fun w hw => laws_vHas.ok h254 w ((rd_sl (i := 4) rfl) w hw))) ?_
            refine F.qn rfl (r_move rfl) (F.skf rfl g255 (F.skf rfl g255 (F.qn rfl (r_pickf rfl rfl g255) (F.nil ?_))))
            cases hE_19
            refine Nrm.only [3, 4, 5, 9, 13, 17, 28, 258] rfl ?_
            refine Nrm.pick [0, 1, 2, 3, 4, 5] rfl rfl ?_
            exact hj_12 _ _ ⟨rfl, rfl⟩
        ·rcases Bool.eq_false_or_eq_true (!t230_4) with g241 | g241
         ·replace hE_18 := if_tt g241 hE_18
          refine Tri.reg (l := List.range 13) rfl ?_
          refine F.qn rfl (r_move rfl) ?_
          refine F.qn rfl (r_not rfl) (F.qn rfl (r_move rfl) (F.skf rfl g241 (F.skf rfl g241 (F.qn rfl (r_pick rfl rfl g241) (F.qn rfl (r_move rfl) ?_)))))
          iterate 5 refine F.skf rfl rfl ?_
          refine F.qn rfl (r_pick rfl rfl rfl) (F.nil ?_)
          cases hE_18
          refine Nrm.only [3, 4, 5, 9, 13, 17, 28, 251] rfl ?_
          refine Nrm.pick [3, 4, 5, 6, 7, 8] rfl rfl ?_
          exact hj_11 _ _ ⟨rfl, rfl⟩
         ·replace hE_18 := if_ff g241 hE_18
          rcases Bool.eq_false_or_eq_true (!t236_2) with g245 | g245
          ·replace hE_18 := if_tt g245 hE_18
           refine Tri.reg (l := List.range 13) rfl ?_
           refine F.qn rfl (r_move rfl) ?_
           refine F.qn rfl (r_not rfl) (F.qn rfl (r_move rfl) (F.qg rfl g241 (r_move rfl) (F.qg rfl g241 (r_not rfl) (F.qn rfl (r_pickf rfl rfl g241) (F.qn rfl (r_move rfl) ?_)))))
           iterate 5 refine F.skf rfl g245 ?_
           refine F.qn rfl (r_pick rfl rfl g245) (F.nil ?_)
           cases hE_18
           refine Nrm.only [3, 4, 5, 9, 13, 17, 28, 251] rfl ?_
           refine Nrm.pick [3, 4, 5, 6, 7, 8] rfl rfl ?_
           exact hj_11 _ _ ⟨rfl, rfl⟩
          ·replace hE_18 := if_ff g245 hE_18
           obtain ⟨t249, h249, hE_18⟩ := bind_some hE_18
           refine Tri.reg (l := List.range 13) rfl ?_
           refine F.qn rfl (r_move rfl) ?_
           refine F.qn rfl (r_not rfl) (F.qn rfl (r_move rfl) (F.qg rfl g241 (r_move rfl) (F.qg rfl g241 (r_not rfl) (F.qn rfl (r_pickf rfl rfl g241) (F.qn rfl (r_move rfl) ?_)))))
           iterate 3 refine F.qg rfl g245 (r_move rfl) ?_
           refine F.qc rfl rfl rfl (wg rfl rfl rfl g245) (q_callF (xs := _) rfl ok22 rfl rfl (fun w hw => laws_vHas.ok h249 w ((rd_sl (i := 7) rfl) w hw))) ?_
           refine F.qg rfl g245 (r_eqlB Tryz.underlying4 rfl rfl) (F.qn rfl (r_pickf rfl rfl g245) (F.nil ?_))
           cases hE_18
           refine Nrm.only [3, 4, 5, 9, 13, 17, 28, 251] rfl ?_
           refine Nrm.pick [3, 4, 5, 6, 7, 8] rfl rfl ?_
           exact hj_11 _ _ ⟨rfl, rfl⟩
       ·replace hE_17 := if_ff g_20 hE_17
        refine Tri.exit ?_
        refine Exi.then ?_
        refine Exi.then ?_
        refine Exi.same ?_
        cases hE_17
        replace h := Lr_inl h
        refine Nrm.seq (Tri.seq (Tri.seq (Tri.reg (l := [0]) rfl ?_)))
        refine F.qn rfl (r_assign rfl) (F.nil (Nrm.seq ?_))
        obtain ⟨s7, hE_21, h⟩ := bind_some h
        refine Tri.block ?_
        refine Tri.only [3, 4, 9, 13, 17, 35] rfl ?_
        refine Tri.pick [0, 1, 2, 3, 5] rfl rfl ?_
        refine Tri.rounds (fun n e' C' => ∃ (x35r' : Int), laws_FnRequired.l7 k t58_1 t58_2 t58_3 t58_4 t100_1 n x35r' = some s7 ∧ e' = [(3, .pointer (some ⟨b3_1, 0, none⟩)), (4, .int .i64 t58_4), (9, v76_1), (13, .int .i64 t88_1), (17, v100_1), (35, .int .i64 x35r')] ∧ C' = Sep w noM [R.box b3_1 27 [.int .i64 t58_1, v58_1, v58_2], R.sl S100_1 v100_1 (t100_1 : List (Int)), R.sl S58_1 v58_1 (t58_2 : List (Int × Int × Int)), R.sl S58_2 v58_2 (t58_3 : List (Int)), R.sl S76_1 v76_1 (t76_1 : List (Int))]) k ?_ ?_ ?_
        ·exact ⟨0, hE_21, rfl, rfl⟩
        ·rintro _ _ ⟨_, hE_21, _⟩
         rw [laws_FnRequired.l7.eq_1] at hE_21; cases hE_21
        ·rintro n_8 _ _ ⟨x35r, hE_21, rfl, rfl⟩ ih_8
         rw [laws_FnRequired.l7.eq_2] at hE_21
         refine Tri.seq (Tri.seq (Tri.reg (l := [0, 1, 2, 3]) rfl ?_))
         refine F.qn rfl (r_move rfl) (F.qn rfl (r_fieldAddr tf27_0 rfl) (F.qn rfl (r_load ta3 rfl (fun w hw => cell_1 (box_cells (i := 0) rfl w hw) rfl)) (F.qn rfl (r_lss rfl rfl) (F.nil (Nrm.seq (Tri.cond (b := decide (x35r < t58_1)) rfl (fun g_24 => ?_) (fun g_24 => ?_)))))))
         ·replace hE_21 := if_tt g_24 hE_21
          refine Tri.skip (Nrm.seq (Tri.seq (Tri.block ?_)))
          refine Tri.seq ?_
          obtain ⟨⟨t283_1, t283_2, t283_3, t283_4⟩, h283, hE_21⟩ := bind_some hE_21
          refine Tri.reg (l := [0, 1, 2, 3, 4, 5, 6, 7, 8]) rfl ?_
          refine F.qn rfl (r_loadA ta27 ti27 rfl rfl (fun w hw => (box_cells (i := 0) rfl w hw))) (F.qn rfl (r_move rfl) ?_)
          refine F.mn rfl (m_callF (xs := _) rfl ok24 rfl rfl (fun w hw => impl_WithoutKeys.ok h283 w ((rd_sl (i := 2) rfl) w hw) ((rd_sl (i := 3) rfl) w hw))) ?_
          rintro _ _ ⟨_, ⟨v283_3, S283_3, v283_4, S283_4, rfl, hl_v283_3, hl_v283_4, rfl⟩, rfl⟩
          refine F.qn rfl (r_move rfl) (F.qn rfl (r_extract rfl rfl) (F.qn rfl (r_extract rfl rfl) ?_))
          refine F.mn rfl (m_alloc ti27) ?_
          rintro _ _ ⟨b36_2, rfl, rfl⟩
          refine F.ef0 rfl rfl (wanted_none rfl) (d_storeG0 (i := 0) (cs2 := [.int .i64 t283_1, v283_3, v283_4]) ti27 rfl rfl rfl rfl rfl (Nat.le_of_ble_eq_true rfl) (lf_cons rfl (lf_cons (sl_leaf hl_v283_3) (lf_cons (sl_leaf hl_v283_4) lf_nil)))) ?_
          rintro _ _ ⟨rfl, rfl⟩
          refine F.qn rfl (r_assign rfl) (F.nil (Nrm.seq (Tri.seq ?_)))
          obtain ⟨⟨t289_1, t289_2⟩, h289, hE_21⟩ := bind_some hE_21
          refine Tri.reg (l := [0, 1, 2, 3, 4, 5, 6, 7]) rfl ?_
          refine F.qn rfl (r_loadA ta27 ti27 rfl rfl (fun w hw => (box_cells (i := 0) rfl w hw))) (F.qn rfl (r_move rfl) ?_)
          refine F.qcn rfl (q_callF (xs := _) rfl ok20 rfl rfl (fun w hw => impl_CanWin.ok h289 w ((rd_sl (i := 1) rfl) w hw) ((rd_sl (i := 2) rfl) w hw))) ?_
          refine F.qn rfl (r_move rfl) (F.qn rfl (r_extract rfl rfl) (F.qn rfl (r_extract rfl rfl) (F.qn rfl (r_assign rfl) (F.qn rfl (r_assign rfl) (F.nil (Nrm.seq (Tri.seq ?_)))))))
          obtain ⟨y304r, hE_22, hE_21⟩ := bind_some hE_21
          refine Tri.cut (fun e' C' => e' = [(3, .pointer (some ⟨b3_1, 0, none⟩)), (4, .int .i64 t58_4), (9, v76_1), (13, .int .i64 t88_1), (17, v100_1), (35, .int .i64 x35r), (304, .bool y304r)] ∧ C' = Sep w noM [R.box b3_1 27 [.int .i64 t58_1, v58_1, v58_2], R.sl S100_1 v100_1 (t100_1 : List (Int)), R.sl S58_1 v58_1 (t58_2 : List (Int × Int × Int)), R.sl S58_2 v58_2 (t58_3 : List (Int)), R.sl S76_1 v76_1 (t76_1 : List (Int))]) ?_ (fun hj_14 => ?_)
          ·rintro _ _ ⟨rfl, rfl⟩
           refine Nrm.seq (Tri.cond (b := y304r) rfl (fun g_25 => ?_) (fun g_25 => ?_))
           ·replace hE_21 := if_tt g_25 hE_21
            refine Tri.seq (Tri.reg (l := [0]) rfl ?_)
            refine F.qn rfl (r_assign rfl) (F.nil (Nrm.seq (Tri.ret ?_)))
            refine Rtn.block ?_
            refine Rtn.then ?_
            refine Rtn.then ?_
            refine Rtn.block ?_
            refine Rtn.then ?_
            cases hE_21
            replace h := Lr_inr h
            cases h
            exact Rtn.body (.tmp rfl .nil) (fun w hw => ⟨rfl, hw.ext⟩)
           ·replace hE_21 := if_ff g_25 hE_21
            refine Tri.skip (Nrm.block ?_)
            refine Nrm.seq (Tri.reg (l := [0, 1, 2]) rfl ?_)
            refine F.qn rfl (r_move rfl) (F.qn rfl (r_add rfl rfl) (F.qn rfl (r_assign rfl) (F.nil (Nrm.round ?_))))
            refine Rnd.only [3, 4, 9, 13, 17, 35] rfl ?_
            refine Rnd.pick [0, 1, 2, 3, 4] rfl rfl ?_
            exact ih_8 _ _ ⟨w64 (x35r + 1), hE_21, rfl, rfl⟩
          ·rcases Bool.eq_false_or_eq_true (!t283_4) with g294 | g294
           ·replace hE_22 := if_tt g294 hE_22
            refine Tri.reg (l := List.range 13) rfl ?_
            refine F.qn rfl (r_move rfl) ?_
            refine F.qn rfl (r_not rfl) (F.qn rfl (r_move rfl) (F.skf rfl g294 (F.skf rfl g294 (F.qn rfl (r_pick rfl rfl g294) (F.qn rfl (r_move rfl) ?_)))))
            iterate 5 refine F.skf rfl rfl ?_
            refine F.qn rfl (r_pick rfl rfl rfl) (F.nil ?_)
            cases hE_22
            refine Nrm.only [3, 4, 9, 13, 17, 35, 304] rfl ?_
            refine Nrm.pick [3, 4, 5, 6, 7] rfl rfl ?_
            exact hj_14 _ _ ⟨rfl, rfl⟩
           ·replace hE_22 := if_ff g294 hE_22
            rcases Bool.eq_false_or_eq_true (!t289_2) with g298 | g298
            ·replace hE_22 := if_tt g298 hE_22
             refine Tri.reg (l := List.range 13) rfl ?_
             refine F.qn rfl (r_move rfl) ?_
             refine F.qn rfl (r_not rfl) (F.qn rfl (r_move rfl) (F.qg rfl g294 (r_move rfl) (F.qg rfl g294 (r_not rfl) (F.qn rfl (r_pickf rfl rfl g294) (F.qn rfl (r_move rfl) ?_)))))
             iterate 5 refine F.skf rfl g298 ?_
             refine F.qn rfl (r_pick rfl rfl g298) (F.nil ?_)
             cases hE_22
             refine Nrm.only [3, 4, 9, 13, 17, 35, 304] rfl ?_
             refine Nrm.pick [3, 4, 5, 6, 7] rfl rfl ?_
             exact hj_14 _ _ ⟨rfl, rfl⟩
            ·replace hE_22 := if_ff g298 hE_22
             obtain ⟨t302, h302, hE_22⟩ := bind_some hE_22
             refine Tri.reg (l := List.range 13) rfl ?_
             refine F.qn rfl (r_move rfl) ?_
             refine F.qn rfl (r_not rfl) (F.qn rfl (r_move rfl) (F.qg rfl g294 (r_move rfl) (F.qg rfl g294 (r_not rfl) (F.qn rfl (r_pickf rfl rfl g294) (F.qn rfl (r_move rfl) ?_)))))
             iterate 3 refine F.qg rfl g298 (r_move rfl) ?_
             refine F.qc rfl rfl rfl (wg rfl rfl rfl g298) (q_callF (xs := _) rfl ok22 rfl rfl (fun w hw => laws_vHas.ok h302 w ((rd_sl (i := 4) rfl) w hw))) ?_
             refine F.qg rfl g298 (r_neqB Tryz.underlying4 rfl rfl) (F.qn rfl (r_pickf rfl rfl g298) (F.nil ?_))
             cases hE_22
             refine Nrm.only [3, 4, 9, 13, 17, 35, 304] rfl ?_
             refine Nrm.pick [3, 4, 5, 6, 7] rfl rfl ?_
             exact hj_14 _ _ ⟨rfl, rfl⟩
         ·replace hE_21 := if_ff g_24 hE_21
          refine Tri.exit ?_
          refine Exi.then ?_
          refine Exi.then ?_
          refine Exi.same ?_
          cases hE_21
          replace h := Lr_inl h
          refine Nrm.seq (Tri.seq (Tri.seq (Tri.reg (l := [0]) rfl ?_)))
          refine F.qn rfl (r_assign rfl) (F.nil (Nrm.seq ?_))
          obtain ⟨s8, hE_23, h⟩ := bind_some h
          refine Tri.block ?_
          refine Tri.only [3, 4, 9, 13, 40] rfl ?_
          refine Tri.pick [0, 2, 3, 4] rfl rfl ?_
          refine Tri.rounds (fun n e' C' => ∃ (x40r' : Int), laws_FnRequired.l8 k t58_1 t58_2 t58_3 t58_4 t76_1 n x40r' = some s8 ∧ e' = [(3, .pointer (some ⟨b3_1, 0, none⟩)), (4, .int .i64 t58_4), (9, v76_1), (13, .int .i64 t88_1), (40, .int .i64 x40r')] ∧ C' = Sep w noM [R.box b3_1 27 [.int .i64 t58_1, v58_1, v58_2], R.sl S58_1 v58_1 (t58_2 : List (Int × Int × Int)), R.sl S58_2 v58_2 (t58_3 : List (Int)), R.sl S76_1 v76_1 (t76_1 : List (Int))]) k ?_ ?_ ?_
          ·exact ⟨0, hE_23, rfl, rfl⟩
          ·rintro _ _ ⟨_, hE_23, _⟩
           rw [laws_FnRequired.l8.eq_1] at hE_23; cases hE_23
          ·rintro n_9 _ _ ⟨x40r, hE_23, rfl, rfl⟩ ih_9
           rw [laws_FnRequired.l8.eq_2] at hE_23
           refine Tri.seq (Tri.seq (Tri.reg (l := [0, 1, 2, 3, 4]) rfl ?_))
           refine F.qn rfl (r_move rfl) (F.qn rfl (r_fieldAddr tf27_1 rfl) (F.qn rfl (r_load ta24 rfl (fun w hw => cell_1 (box_cells (i := 0) rfl w hw) rfl)) (F.qn rfl (r_len Tryz.underlying24 rfl hl_v58_1) (F.qn rfl (r_lss rfl rfl) (F.nil (Nrm.seq (Tri.cond (b := decide (x40r < (t58_2.length : Int))) rfl (fun g_26 => ?_) (fun g_26 => ?_))))))))
           ·replace hE_23 := if_tt g_26 hE_23
            refine Tri.skip (Nrm.seq (Tri.seq (Tri.block ?_)))
            refine Tri.seq ?_
            obtain ⟨⟨t315_1, t315_2, t315_3, t315_4⟩, h315, hE_23⟩ := bind_some hE_23
            refine Tri.reg (l := [0, 1, 2, 3, 4, 5, 6, 7, 8]) rfl ?_
            refine F.qn rfl (r_loadA ta27 ti27 rfl rfl (fun w hw => (box_cells (i := 0) rfl w hw))) (F.qn rfl (r_move rfl) ?_)
            refine F.mn rfl (m_callF (xs := _) rfl ok25 rfl rfl (fun w hw => impl_DropDoor.ok h315 w ((rd_sl (i := 1) rfl) w hw) ((rd_sl (i := 2) rfl) w hw))) ?_
            rintro _ _ ⟨_, ⟨v315_3, S315_3, v315_4, S315_4, rfl, hl_v315_3, hl_v315_4, rfl⟩, rfl⟩
            refine F.qn rfl (r_move rfl) (F.qn rfl (r_extract rfl rfl) (F.qn rfl (r_extract rfl rfl) ?_))
            refine F.mn rfl (m_alloc ti27) ?_
            rintro _ _ ⟨b41_2, rfl, rfl⟩
            refine F.ef0 rfl rfl (wanted_none rfl) (d_storeG0 (i := 0) (cs2 := [.int .i64 t315_1, v315_3, v315_4]) ti27 rfl rfl rfl rfl rfl (Nat.le_of_ble_eq_true rfl) (lf_cons rfl (lf_cons (sl_leaf hl_v315_3) (lf_cons (sl_leaf hl_v315_4) lf_nil)))) ?_
            rintro _ _ ⟨rfl, rfl⟩
            refine F.qn rfl (r_assign rfl) (F.nil (Nrm.seq (Tri.seq ?_)))
            obtain ⟨⟨t321_1, t321_2⟩, h321, hE_23⟩ := bind_some hE_23
            refine Tri.reg (l := [0, 1, 2, 3, 4, 5, 6, 7]) rfl ?_
            refine F.qn rfl (r_loadA ta27 ti27 rfl rfl (fun w hw => (box_cells (i := 0) rfl w hw))) (F.qn rfl (r_move rfl) ?_)
            refine F.qcn rfl (q_callF (xs := _) rfl ok20 rfl rfl (fun w hw => impl_CanWin.ok h321 w ((rd_sl (i := 1) rfl) w hw) ((rd_sl (i := 2) rfl) w hw))) ?_
            refine F.qn rfl (r_move rfl) (F.qn rfl (r_extract rfl rfl) (F.qn rfl (r_extract rfl rfl) (F.qn rfl (r_assign rfl) (F.qn rfl (r_assign rfl) (F.nil (Nrm.seq (Tri.seq ?_)))))))
            obtain ⟨y336r, hE_24, hE_23⟩ := bind_some hE_23
            refine Tri.cut (fun e' C' => e' = [(3, .pointer (some ⟨b3_1, 0, none⟩)), (4, .int .i64 t58_4), (9, v76_1), (13, .int .i64 t88_1), (40, .int .i64 x40r), (336, .bool y336r)] ∧ C' = Sep w noM [R.box b3_1 27 [.int .i64 t58_1, v58_1, v58_2], R.sl S58_1 v58_1 (t58_2 : List (Int × Int × Int)), R.sl S58_2 v58_2 (t58_3 : List (Int)), R.sl S76_1 v76_1 (t76_1 : List (Int))]) ?_ (fun hj_15 => ?_)
            ·rintro _ _ ⟨rfl, rfl⟩
             refine Nrm.seq (Tri.cond (b := y336r) rfl (fun g_27 => ?_) (fun g_27 => ?_))
             ·replace hE_23 := if_tt g_27 hE_23
              refine Tri.seq (Tri.reg (l := [0]) rfl ?_)
              refine F.qn rfl (r_assign rfl) (F.nil (Nrm.seq (Tri.ret ?_)))
              refine Rtn.block ?_
              refine Rtn.then ?_
              refine Rtn.then ?_
              refine Rtn.block ?_
              refine Rtn.then ?_
              cases hE_23
              replace h := Lr_inr h
              cases h
              exact Rtn.body (.tmp rfl .nil) (fun w hw => ⟨rfl, hw.ext⟩)
             ·replace hE_23 := if_ff g_27 hE_23
              refine Tri.skip (Nrm.block ?_)
              refine Nrm.seq (Tri.reg (l := [0, 1, 2]) rfl ?_)
              refine F.qn rfl (r_move rfl) (F.qn rfl (r_add rfl rfl) (F.qn rfl (r_assign rfl) (F.nil (Nrm.round ?_))))
              refine Rnd.only [3, 4, 9, 13, 40] rfl ?_
              refine Rnd.pick [0, 1, 2, 3] rfl rfl ?_
              exact ih_9 _ _ ⟨w64 (x40r + 1), hE_23, rfl, rfl⟩
            ·rcases Bool.eq_false_or_eq_true (!t315_4) with g326 | g326
             ·replace hE_24 := if_tt g326 hE_24
              refine Tri.reg (l := List.range 13) rfl ?_
              refine F.qn rfl (r_move rfl) ?_
              refine F.qn rfl (r_not rfl) (F.qn rfl (r_move rfl) (F.skf rfl g326 (F.skf rfl g326 (F.qn rfl (r_pick rfl rfl g326) (F.qn rfl (r_move rfl) ?_)))))
              iterate 5 refine F.skf rfl rfl ?_
              refine F.qn rfl (r_pick rfl rfl rfl) (F.nil ?_)
              cases hE_24
              refine Nrm.only [3, 4, 9, 13, 40, 336] rfl ?_
              refine Nrm.pick [3, 4, 5, 6] rfl rfl ?_
              exact hj_15 _ _ ⟨rfl, rfl⟩
             ·replace hE_24 := if_ff g326 hE_24
              rcases Bool.eq_false_or_eq_true (!t321_2) with g330 | g330
              ·replace hE_24 := if_tt g330 hE_24
               refine Tri.reg (l := List.range 13) rfl ?_
               refine F.qn rfl (r_move rfl) ?_
               refine F.qn rfl (r_not rfl) (F.qn rfl (r_move rfl) (F.qg rfl g326 (r_move rfl) (F.qg rfl g326 (r_not rfl) (F.qn rfl (r_pickf rfl rfl g326) (F.qn rfl (r_move rfl) ?_)))))
               iterate 5 refine F.skf rfl g330 ?_
               refine F.qn rfl (r_pick rfl rfl g330) (F.nil ?_)
               cases hE_24
               refine Nrm.only [3, 4, 9, 13, 40, 336] rfl ?_
               refine Nrm.pick [3, 4, 5, 6] rfl rfl ?_
               exact hj_15 _ _ ⟨rfl, rfl⟩
              ·replace hE_24 := if_ff g330 hE_24
               obtain ⟨t334, h334, hE_24⟩ := bind_some hE_24
               refine Tri.reg (l := List.range 13) rfl ?_
               refine F.qn rfl (r_move rfl) ?_
               refine F.qn rfl (r_not rfl) (F.qn rfl (r_move rfl) (F.qg rfl g326 (r_move rfl) (F.qg rfl g326 (r_not rfl) (F.qn rfl (r_pickf rfl rfl g326) (F.qn rfl (r_move rfl) ?_)))))
               iterate 3 refine F.qg rfl g330 (r_move rfl) ?_
               refine F.qc rfl rfl rfl (wg rfl rfl rfl g330) (q_callF (xs := _) rfl ok22 rfl rfl (fun w hw => laws_vHas.ok h334 w ((rd_sl (i := 6) rfl) w hw))) ?_
               refine F.qg rfl g330 (r_eqlB Tryz.underlying4 rfl rfl) (F.qn rfl (r_pickf rfl rfl g330) (F.nil ?_))
               cases hE_24
               refine Nrm.only [3, 4, 9, 13, 40, 336] rfl ?_
               refine Nrm.pick [3, 4, 5, 6] rfl rfl ?_
               exact hj_15 _ _ ⟨rfl, rfl⟩
           ·replace hE_23 := if_ff g_26 hE_23
            refine Tri.exit ?_
            refine Exi.then ?_
            refine Exi.then ?_
            refine Exi.same ?_
            cases hE_23
            replace h := Lr_inl h
            refine Nrm.seq (Tri.seq ?_)
            obtain ⟨⟨t339_1, t339_2⟩, h339, h⟩ := bind_some h
            refine Tri.reg (l := [0, 1, 2, 3, 4, 5, 6]) rfl ?_
            refine F.qn rfl (r_loadA ta27 ti27 rfl rfl (fun w hw => (box_cells (i := 0) rfl w hw))) ?_
            refine F.mn rfl (m_callF (xs := _) rfl ok26 rfl rfl (fun w hw => impl_LeastWins.ok h339 w ((rd_sl (i := 1) rfl) w hw) ((rd_sl (i := 2) rfl) w hw))) ?_
            rintro _ _ ⟨_, ⟨v339_2, S339_2, rfl, hl_v339_2, rfl⟩, rfl⟩
            refine F.qn rfl (r_move rfl) (F.qn rfl (r_extract rfl rfl) (F.qn rfl (r_extract rfl rfl) (F.qn rfl (r_assign rfl) (F.qn rfl (r_assign rfl) (F.nil (Nrm.seq (Tri.seq (Tri.seq (Tri.reg (l := [0]) rfl ?_)))))))))
            refine F.qn rfl (r_assign rfl) (F.nil (Nrm.seq ?_))
            obtain ⟨s9, hE_25, h⟩ := bind_some h
            refine Tri.block ?_
            refine Tri.only [3, 4, 13, 45, 46, 47] rfl ?_
            refine Tri.pick [1, 0, 2, 3] rfl rfl ?_
            refine Tri.rounds (fun n e' C' => ∃ (x47r' : Int), laws_FnRequired.l9 k t58_1 t58_2 t58_3 t58_4 t88_1 t339_1 t339_2 n x47r' = some s9 ∧ e' = [(3, .pointer (some ⟨b3_1, 0, none⟩)), (4, .int .i64 t58_4), (13, .int .i64 t88_1), (45, v339_2), (46, .bool t339_2), (47, .int .i64 x47r')] ∧ C' = Sep w noM [R.box b3_1 27 [.int .i64 t58_1, v58_1, v58_2], R.sl S339_2 v339_2 (t339_1 : List (Int)), R.sl S58_1 v58_1 (t58_2 : List (Int × Int × Int)), R.sl S58_2 v58_2 (t58_3 : List (Int))]) k ?_ ?_ ?_
            ·exact ⟨0, hE_25, rfl, rfl⟩
            ·rintro _ _ ⟨_, hE_25, _⟩
             rw [laws_FnRequired.l9.eq_1] at hE_25; cases hE_25
            ·rintro n_10 _ _ ⟨x47r, hE_25, rfl, rfl⟩ ih_10
             rw [laws_FnRequired.l9.eq_2] at hE_25
             refine Tri.seq (Tri.seq (Tri.reg (l := [0, 1]) rfl ?_))
             refine F.qn rfl (r_move rfl) (F.qn rfl (r_lss rfl rfl) (F.nil (Nrm.seq (Tri.cond (b := decide (x47r < 6)) rfl (fun g_28 => ?_) (fun g_28 => ?_)))))
             ·replace hE_25 := if_tt g_28 hE_25
              refine Tri.skip (Nrm.seq (Tri.seq (Tri.block ?_)))
              refine Tri.seq ?_
              obtain ⟨⟨t349_1, t349_2, t349_3, t349_4⟩, h349, hE_25⟩ := bind_some hE_25
              refine Tri.reg (l := [0, 1, 2, 3, 4, 5, 6, 7, 8]) rfl ?_
              refine F.qn rfl (r_loadA ta27 ti27 rfl rfl (fun w hw => (box_cells (i := 0) rfl w hw))) (F.qn rfl (r_move rfl) ?_)
              refine F.mn rfl (m_callF (xs := _) rfl ok27 rfl rfl (fun w hw => impl_WithoutColour.ok h349 w ((rd_sl (i := 2) rfl) w hw) ((rd_sl (i := 3) rfl) w hw))) ?_
              rintro _ _ ⟨_, ⟨v349_3, S349_3, v349_4, S349_4, rfl, hl_v349_3, hl_v349_4, rfl⟩, rfl⟩
              refine F.qn rfl (r_move rfl) (F.qn rfl (r_extract rfl rfl) (F.qn rfl (r_extract rfl rfl) ?_))
              refine F.mn rfl (m_alloc ti27) ?_
              rintro _ _ ⟨b48_2, rfl, rfl⟩
              refine F.ef0 rfl rfl (wanted_none rfl) (d_storeG0 (i := 0) (cs2 := [.int .i64 t349_1, v349_3, v349_4]) ti27 rfl rfl rfl rfl rfl (Nat.le_of_ble_eq_true rfl) (lf_cons rfl (lf_cons (sl_leaf hl_v349_3) (lf_cons (sl_leaf hl_v349_4) lf_nil)))) ?_
              rintro _ _ ⟨rfl, rfl⟩
              refine F.qn rfl (r_assign rfl) (F.nil (Nrm.seq (Tri.seq ?_)))
              obtain ⟨⟨t355_1, t355_2⟩, h355, hE_25⟩ := bind_some hE_25
              refine Tri.reg (l := [0, 1, 2, 3, 4, 5, 6, 7]) rfl ?_
              refine F.qn rfl (r_loadA ta27 ti27 rfl rfl (fun w hw => (box_cells (i := 0) rfl w hw))) (F.qn rfl (r_move rfl) ?_)
              refine F.qcn rfl (q_callF (xs := _) rfl ok20 rfl rfl (fun w hw => impl_CanWin.ok h355 w ((rd_sl (i := 1) rfl) w hw) ((rd_sl (i := 2) rfl) w hw))) ?_
              refine F.qn rfl (r_move rfl) (F.qn rfl (r_extract rfl rfl) (F.qn rfl (r_extract rfl rfl) (F.qn rfl (r_assign rfl) (F.qn rfl (r_assign rfl) (F.nil (Nrm.seq (Tri.seq (Tri.seq ?_))))))))
              obtain ⟨y372r, hE_26, hE_25⟩ := bind_some hE_25
              refine Tri.cut (fun e' C' => e' = [(3, .pointer (some ⟨b3_1, 0, none⟩)), (4, .int .i64 t58_4), (13, .int .i64 t88_1), (45, v339_2), (46, .bool t339_2), (47, .int .i64 x47r), (372, .bool y372r)] ∧ C' = Sep w noM [R.box b3_1 27 [.int .i64 t58_1, v58_1, v58_2], R.sl S339_2 v339_2 (t339_1 : List (Int)), R.sl S58_1 v58_1 (t58_2 : List (Int × Int × Int)), R.sl S58_2 v58_2 (t58_3 : List (Int))]) ?_ (fun hj_16 => ?_)
              ·rintro _ _ ⟨rfl, rfl⟩
               refine Nrm.seq (Tri.cond (b := y372r) rfl (fun g_29 => ?_) (fun g_29 => ?_))
               ·replace hE_25 := if_tt g_29 hE_25
                refine Tri.seq (Tri.reg (l := [0]) rfl ?_)
                refine F.qn rfl (r_assign rfl) (F.nil (Nrm.seq (Tri.ret ?_)))
                refine Rtn.then ?_
                refine Rtn.block ?_
                refine Rtn.then ?_
                refine Rtn.then ?_
                refine Rtn.block ?_
                refine Rtn.then ?_
                cases hE_25
                replace h := Lr_inr h
                cases h
                exact Rtn.body (.tmp rfl .nil) (fun w hw => ⟨rfl, hw.ext⟩)
               ·replace hE_25 := if_ff g_29 hE_25
                refine Tri.skip (Nrm.seq (Tri.seq (Tri.reg (l := [0]) rfl ?_)))
                refine F.qn rfl (r_assign rfl) (F.nil (Nrm.seq (Tri.seq (Tri.seq (Tri.reg (l := [0]) rfl ?_)))))
                refine F.qn rfl (r_assign rfl) (F.nil (Nrm.seq ?_))
                obtain ⟨x52r, hE_27, hE_25⟩ := bind_some hE_25
                refine Tri.block ?_
                refine Tri.only [3, 4, 13, 45, 46, 47, 52, 53] rfl ?_
                refine Tri.pick [0, 1, 2, 3] rfl rfl ?_
                refine Tri.rounds (fun n e' C' => ∃ (x52r' : Bool) (x53r' : Int), laws_FnRequired.l10 k t339_1 x47r n x52r' x53r' = some x52r ∧ e' = [(3, .pointer (some ⟨b3_1, 0, none⟩)), (4, .int .i64 t58_4), (13, .int .i64 t88_1), (45, v339_2), (46, .bool t339_2), (47, .int .i64 x47r), (52, .bool x52r'), (53, .int .i64 x53r')] ∧ C' = Sep w noM [R.box b3_1 27 [.int .i64 t58_1, v58_1, v58_2], R.sl S339_2 v339_2 (t339_1 : List (Int)), R.sl S58_1 v58_1 (t58_2 : List (Int × Int × Int)), R.sl S58_2 v58_2 (t58_3 : List (Int))]) k ?_ ?_ ?_
                ·exact ⟨true, 0, hE_27, rfl, rfl⟩
                ·rintro _ _ ⟨_, _, hE_27, _⟩
                 rw [laws_FnRequired.l10.eq_1] at hE_27; cases hE_27
                ·rintro n_11 _ _ ⟨x52r, x53r, hE_27, rfl, rfl⟩ ih_11
                 rw [laws_FnRequired.l10.eq_2] at hE_27
                 refine Tri.seq (Tri.seq (Tri.reg (l := [0, 1, 2, 3]) rfl ?_))
                 refine F.qn rfl (r_move rfl) (F.qn rfl (r_move rfl) (F.qn rfl (r_len Tryz.underlying25 rfl hl_v339_2) (F.qn rfl (r_lss rfl rfl) (F.nil (Nrm.seq (Tri.cond (b := decide (x53r < (t339_1.length : Int))) rfl (fun g_30 => ?_) (fun g_30 => ?_)))))))
                 ·replace hE_27 := if_tt g_30 hE_27
                  refine Tri.skip (Nrm.seq (Tri.seq (Tri.block ?_)))
                  obtain ⟨y52r, hE_28, hE_27⟩ := bind_some hE_27
                  refine Tri.cut (fun e' C' => e' = [(3, .pointer (some ⟨b3_1, 0, none⟩)), (4, .int .i64 t58_4), (13, .int .i64 t88_1), (45, v339_2), (46, .bool t339_2), (47, .int .i64 x47r), (52, .bool y52r), (53, .int .i64 x53r)] ∧ C' = Sep w noM [R.box b3_1 27 [.int .i64 t58_1, v58_1, v58_2], R.sl S339_2 v339_2 (t339_1 : List (Int)), R.sl S58_1 v58_1 (t58_2 : List (Int × Int × Int)), R.sl S58_2 v58_2 (t58_3 : List (Int))]) ?_ (fun hj_17 => ?_)
                  ·rintro _ _ ⟨rfl, rfl⟩
                   refine Nrm.block ?_
                   refine Nrm.seq (Tri.reg (l := [0, 1, 2]) rfl ?_)
                   refine F.qn rfl (r_move rfl) (F.qn rfl (r_add rfl rfl) (F.qn rfl (r_assign rfl) (F.nil (Nrm.round ?_))))
                   refine Rnd.only [3, 4, 13, 45, 46, 47, 52, 53] rfl ?_
                   refine Rnd.pick [0, 1, 2, 3] rfl rfl ?_
                   exact ih_11 _ _ ⟨y52r, w64 (x53r + 1), hE_27, rfl, rfl⟩
                  ·rcases Bool.eq_false_or_eq_true (x52r) with g380 | g380
                   ·replace hE_28 := if_tt g380 hE_28
                    obtain ⟨t383, h383, hE_28⟩ := bind_some hE_28
                    obtain ⟨hs386, hE_28⟩ := ck hE_28
                    refine Tri.reg (l := List.range 12) rfl ?_
                    refine F.qn rfl (r_move rfl) (F.qn rfl (r_move rfl) (F.qg rfl g380 (r_move rfl) (F.qg rfl g380 (r_move rfl) (F.qg rfl g380 (r_indexAddrS Tryz.underlying25 ti3 rfl hl_v339_2 rfl (rdl_some h383).1 (rdl_some h383).2.1) (F.qg rfl g380 (r_load ta3 rfl (fun w hw => cell_0 (Rd.flat ((rd_sl (i := 1) rfl) w hw) (rdl_some h383).2.2) rfl)) ?_)))))
                    refine F.qg rfl g380 (r_move rfl) (F.qg rfl g380 (r_shr rfl rfl hs386) (F.qg rfl g380 (r_and rfl rfl) (F.qg rfl g380 (r_eql rfl rfl) (F.qn rfl (r_pick rfl rfl g380) (F.qn rfl (r_assign rfl) (F.nil ?_))))))
                    cases hE_28
                    refine Nrm.only [3, 4, 13, 45, 46, 47, 52, 53] rfl ?_
                    refine Nrm.pick [0, 1, 2, 3] rfl rfl ?_
                    exact hj_17 _ _ ⟨rfl, rfl⟩
                   ·replace hE_28 := if_ff g380 hE_28
                    refine Tri.reg (l := List.range 12) rfl ?_
                    refine F.qn rfl (r_move rfl) (F.qn rfl (r_move rfl) ?_)
                    iterate 8 refine F.skf rfl g380 ?_
                    refine F.qn rfl (r_pickf rfl rfl g380) (F.qn rfl (r_assign rfl) (F.nil ?_))
                    cases hE_28
                    refine Nrm.only [3, 4, 13, 45, 46, 47, 52, 53] rfl ?_
                    refine Nrm.pick [0, 1, 2, 3] rfl rfl ?_
                    exact hj_17 _ _ ⟨rfl, rfl⟩
                 ·replace hE_27 := if_ff g_30 hE_27
                  refine Tri.exit ?_
                  refine Exi.then ?_
                  refine Exi.then ?_
                  refine Exi.same ?_
                  cases hE_27
                  refine Nrm.seq (Tri.seq ?_)
                  obtain ⟨y403r, hE_29, hE_25⟩ := bind_some hE_25
                  refine Tri.cut (fun e' C' => e' = [(3, .pointer (some ⟨b3_1, 0, none⟩)), (4, .int .i64 t58_4), (13, .int .i64 t88_1), (45, v339_2), (46, .bool t339_2), (47, .int .i64 x47r), (403, .bool y403r)] ∧ C' = Sep w noM [R.box b3_1 27 [.int .i64 t58_1, v58_1, v58_2], R.sl S339_2 v339_2 (t339_1 : List (Int)), R.sl S58_1 v58_1 (t58_2 : List (Int × Int × Int)), R.sl S58_2 v58_2 (t58_3 : List (Int))]) ?_ (fun hj_18 => ?_)
                  ·rintro _ _ ⟨rfl, rfl⟩
                   refine Nrm.seq (Tri.cond (b := y403r) rfl (fun g_31 => ?_) (fun g_31 => ?_))
                   ·replace hE_25 := if_tt g_31 hE_25
                    refine Tri.seq (Tri.reg (l := [0]) rfl ?_)
                    refine F.qn rfl (r_assign rfl) (F.nil (Nrm.seq (Tri.ret ?_)))
                    refine Rtn.block ?_
                    refine Rtn.then ?_
                    refine Rtn.then ?_
                    refine Rtn.block ?_
                    refine Rtn.then ?_
                    cases hE_25
                    replace h := Lr_inr h
                    cases h
                    exact Rtn.body (.tmp rfl .nil) (fun w hw => ⟨rfl, hw.ext⟩)
                   ·replace hE_25 := if_ff g_31 hE_25
                    refine Tri.skip (Nrm.block ?_)
                    refine Nrm.seq (Tri.reg (l := [0, 1, 2]) rfl ?_)
                    refine F.qn rfl (r_move rfl) (F.qn rfl (r_add rfl rfl) (F.qn rfl (r_assign rfl) (F.nil (Nrm.round ?_))))
                    refine Rnd.only [3, 4, 13, 45, 46, 47] rfl ?_
                    refine Rnd.pick [0, 1, 2, 3] rfl rfl ?_
                    exact ih_10 _ _ ⟨w64 (x47r + 1), hE_25, rfl, rfl⟩
                  ·rcases Bool.eq_false_or_eq_true (t58_4 == 0) with g392 | g392
                   ·replace hE_29 := if_tt g392 hE_29
                    rcases Bool.eq_false_or_eq_true (t339_2) with g395 | g395
                    ·replace hE_29 := if_tt g395 hE_29
                     obtain ⟨hs399, hE_29⟩ := ck hE_29
                     refine Tri.reg (l := List.range 14) rfl ?_
                     refine F.qn rfl (r_move rfl) (F.qn rfl (r_eql rfl rfl) (F.qn rfl (r_move rfl) (F.qg rfl g392 (r_move rfl) (F.qn rfl (r_pick rfl rfl g392) (F.qn rfl (r_move rfl) ?_)))))
                     iterate 3 refine F.qg rfl g395 (r_move rfl) ?_
                     refine F.qg rfl g395 (r_shr rfl rfl hs399) (F.qg rfl g395 (r_and rfl rfl) (F.qg rfl g395 (r_eql rfl rfl) (F.qg rfl g395 (r_neqB Tryz.underlying4 rfl rfl) (F.qn rfl (r_pick rfl rfl g395) (F.nil ?_)))))
                     cases hE_29
                     refine Nrm.only [3, 4, 13, 45, 46, 47, 403] rfl ?_
                     refine Nrm.pick [0, 1, 2, 3] rfl rfl ?_
                     exact hj_18 _ _ ⟨rfl, rfl⟩
                    ·replace hE_29 := if_ff g395 hE_29
                     refine Tri.reg (l := List.range 14) rfl ?_
                     refine F.qn rfl (r_move rfl) (F.qn rfl (r_eql rfl rfl) (F.qn rfl (r_move rfl) (F.qg rfl g392 (r_move rfl) (F.qn rfl (r_pick rfl rfl g392) (F.qn rfl (r_move rfl) ?_)))))
                     iterate 7 refine F.skf rfl g395 ?_
                     refine F.qn rfl (r_pickf rfl rfl g395) (F.nil ?_)
                     cases hE_29
                     refine Nrm.only [3, 4, 13, 45, 46, 47, 403] rfl ?_
                     refine Nrm.pick [0, 1, 2, 3] rfl rfl ?_
                     exact hj_18 _ _ ⟨rfl, rfl⟩
                   ·replace hE_29 := if_ff g392 hE_29
                    refine Tri.reg (l := List.range 14) rfl ?_
                    refine F.qn rfl (r_move rfl) (F.qn rfl (r_eql rfl rfl) (F.qn rfl (r_move rfl) (F.skf rfl g392 (F.qn rfl (r_pickf rfl rfl g392) (F.qn rfl (r_move rfl) ?_)))))
                    iterate 7 refine F.skf rfl rfl ?_
                    refine F.qn rfl (r_pickf rfl rfl rfl) (F.nil ?_)
                    cases hE_29
                    refine Nrm.only [3, 4, 13, 45, 46, 47, 403] rfl ?_
                    refine Nrm.pick [0, 1, 2, 3] rfl rfl ?_
                    exact hj_18 _ _ ⟨rfl, rfl⟩
              ·rcases Bool.eq_false_or_eq_true (!t349_4) with g360 | g360
               ·replace hE_26 := if_tt g360 hE_26
                refine Tri.reg (l := List.range 15) rfl ?_
                refine F.qn rfl (r_move rfl) ?_
                refine F.qn rfl (r_not rfl) (F.qn rfl (r_move rfl) (F.skf rfl g360 (F.skf rfl g360 (F.qn rfl (r_pick rfl rfl g360) (F.qn rfl (r_move rfl) ?_)))))
                iterate 7 refine F.skf rfl rfl ?_
                refine F.qn rfl (r_pick rfl rfl rfl) (F.nil ?_)
                cases hE_26
                refine Nrm.only [3, 4, 13, 45, 46, 47, 372] rfl ?_
                refine Nrm.pick [3, 4, 5, 6] rfl rfl ?_
                exact hj_16 _ _ ⟨rfl, rfl⟩
               ·replace hE_26 := if_ff g360 hE_26
                rcases Bool.eq_false_or_eq_true (!t355_2) with g364 | g364
                ·replace hE_26 := if_tt g364 hE_26
                 refine Tri.reg (l := List.range 15) rfl ?_
                 refine F.qn rfl (r_move rfl) ?_
                 refine F.qn rfl (r_not rfl) (F.qn rfl (r_move rfl) (F.qg rfl g360 (r_move rfl) (F.qg rfl g360 (r_not rfl) (F.qn rfl (r_pickf rfl rfl g360) (F.qn rfl (r_move rfl) ?_)))))
                 iterate 7 refine F.skf rfl g364 ?_
                 refine F.qn rfl (r_pick rfl rfl g364) (F.nil ?_)
                 cases hE_26
                 refine Nrm.only [3, 4, 13, 45, 46, 47, 372] rfl ?_
                 refine Nrm.pick [3, 4, 5, 6] rfl rfl ?_
                 exact hj_16 _ _ ⟨rfl, rfl⟩
                ·replace hE_26 := if_ff g364 hE_26
                 obtain ⟨hs368, hE_26⟩ := ck hE_26
                 refine Tri.reg (l := List.range 15) rfl ?_
                 refine F.qn rfl (r_move rfl) ?_
                 refine F.qn rfl (r_not rfl) (F.qn rfl (r_move rfl) (F.qg rfl g360 (r_move rfl) (F.qg rfl g360 (r_not rfl) (F.qn rfl (r_pickf rfl rfl g360) (F.qn rfl (r_move rfl) ?_)))))
                 iterate 3 refine F.qg rfl g364 (r_move rfl) ?_
                 refine F.qg rfl g364 (r_shr rfl rfl hs368) (F.qg rfl g364 (r_and rfl rfl) (F.qg rfl g364 (r_eql rfl rfl) (F.qg rfl g364 (r_eqlB Tryz.underlying4 rfl rfl) (F.qn rfl (r_pickf rfl rfl g364) (F.nil ?_)))))
                 cases hE_26
                 refine Nrm.only [3, 4, 13, 45, 46, 47, 372] rfl ?_
                 refine Nrm.pick [3, 4, 5, 6] rfl rfl ?_
                 exact hj_16 _ _ ⟨rfl, rfl⟩
             ·replace hE_25 := if_ff g_28 hE_25
              refine Tri.exit ?_
              refine Exi.then ?_
              refine Exi.then ?_
              refine Exi.same ?_
              cases hE_25
              replace h := Lr_inl h
              refine Nrm.seq (Tri.seq (Tri.reg (l := [0]) rfl ?_))
              refine F.qn rfl (r_assign rfl) (F.nil (Nrm.seq (Tri.ret ?_)))
              cases h
              exact Rtn.body (.tmp rfl .nil) (fun w hw => ⟨rfl, hw.ext⟩)
  ·rcases Bool.eq_false_or_eq_true (t64_2 != t70_2) with g124 | g124
   ·replace hE_1 := if_tt g124 hE_1
    refine Tri.reg (l := List.range 72) rfl ?_
    refine F.qn rfl (r_move rfl) (F.qn rfl (r_move rfl) (F.qn rfl (r_neqB Tryz.underlying4 rfl rfl) (F.qn rfl (r_move rfl) ?_)))
    iterate 4 refine F.skf rfl g124 ?_
    refine F.qn rfl (r_pick rfl rfl g124) (F.qn rfl (r_move rfl) ?_)
    iterate 3 refine F.skf rfl rfl ?_
    refine F.qn rfl (r_pick rfl rfl rfl) (F.qn rfl (r_move rfl) ?_)
    iterate 4 refine F.skf rfl rfl ?_
    refine F.qn rfl (r_pick rfl rfl rfl) (F.qn rfl (r_move rfl) ?_)
    iterate 3 refine F.skf rfl rfl ?_
    refine F.qn rfl (r_pick rfl rfl rfl) (F.qn rfl (r_move rfl) ?_)
    iterate 3 refine F.skf rfl rfl ?_
    refine F.qn rfl (r_pick rfl rfl rfl) (F.qn rfl (r_move rfl) ?_)
    iterate 3 refine F.skf rfl rfl ?_
    refine F.qn rfl (r_pick rfl rfl rfl) (F.qn rfl (r_move rfl) ?_)
    iterate 4 refine F.skf rfl rfl ?_
    refine F.qn rfl (r_pick rfl rfl rfl) (F.qn rfl (r_move rfl) ?_)
    iterate 3 refine F.skf rfl rfl ?_
    refine F.qn rfl (r_pick rfl rfl rfl) (F.qn rfl (r_move rfl) ?_)
    iterate 3 refine F.skf rfl rfl ?_
    refine F.qn rfl (r_pick rfl rfl rfl) (F.qn rfl (r_move rfl) ?_)
    iterate 3 refine F.skf rfl rfl ?_
    refine F.qn rfl (r_pick rfl rfl rfl) (F.qn rfl (r_move rfl) ?_)
    iterate 3 refine F.skf rfl rfl ?_
    refine F.qn rfl (r_pick rfl rfl rfl) (F.qn rfl (r_move rfl) ?_)
    iterate 3 refine F.skf rfl rfl ?_
    refine F.qn rfl (r_pick rfl rfl rfl) (F.qn rfl (r_move rfl) (F.skf rfl rfl (F.skf rfl rfl ?_)))
    refine F.sk rfl rfl rfl (wanted_undef rfl rfl rfl) ?_
    refine F.skf rfl rfl (F.qn rfl (r_pick rfl rfl rfl) (F.nil ?_))
    cases hE_1
    refine Nrm.only [3, 4, 5, 6, 9, 13, 17, 21, 22, 192] rfl ?_
    refine Nrm.pick [6, 1, 7, 8, 5, 3] rfl rfl ?_
    exact hj_1 _ _ ⟨rfl, rfl⟩
   ·replace hE_1 := if_ff g124 hE_1
    obtain ⟨t127, h127, hE_1⟩ := bind_some hE_1
    rcases Bool.eq_false_or_eq_true (!t127) with g130 | g130
    ·replace hE_1 := if_tt g130 hE_1
     refine Tri.reg (l := List.range 72) rfl ?_
     refine F.qn rfl (r_move rfl) (F.qn rfl (r_move rfl) (F.qn rfl (r_neqB Tryz.underlying4 rfl rfl) (F.qn rfl (r_move rfl) (F.qg rfl g124 (r_move rfl) (F.qg rfl g124 (r_move rfl) ?_)))))
     refine F.qc rfl rfl rfl (wg rfl rfl rfl g124) (q_callF (xs := _) rfl ok19 rfl rfl (fun w hw => laws_vInts.ok h127 w ((rd_sl (i := 5) rfl) w hw) ((rd_sl (i := 4) rfl) w hw))) ?_
     refine F.qg rfl g124 (r_not rfl) (F.qn rfl (r_pickf rfl rfl g124) (F.qn rfl (r_move rfl) ?_))
     iterate 3 refine F.skf rfl g130 ?_
     refine F.qn rfl (r_pick rfl rfl g130) (F.qn rfl (r_move rfl) ?_)
     iterate 4 refine F.skf rfl rfl ?_
     refine F.qn rfl (r_pick rfl rfl rfl) (F.qn rfl (r_move rfl) ?_)
     iterate 3 refine F.skf rfl rfl ?_
     refine F.qn rfl (r_pick rfl rfl rfl) (F.qn rfl (r_move rfl) ?_)
     iterate 3 refine F.skf rfl rfl ?_
     refine F.qn rfl (r_pick rfl rfl rfl) (F.qn rfl (r_move rfl) ?_)
     iterate 3 refine F.skf rfl rfl ?_
     refine F.qn rfl (r_pick rfl rfl rfl) (F.qn rfl (r_move rfl) ?_)
     iterate 4 refine F.skf rfl rfl ?_
     refine F.qn rfl (r_pick rfl rfl rfl) (F.qn rfl (r_move rfl) ?_)
     iterate 3 refine F.skf rfl rfl ?_
     refine F.qn rfl (r_pick rfl rfl rfl) (F.qn rfl (r_move rfl) ?_)
     iterate 3 refine F.skf rfl rfl ?_
     refine F.qn rfl (r_pick rfl rfl rfl) (F.qn rfl (r_move rfl) ?_)
     iterate 3 refine F.skf rfl rfl ?_
     refine F.qn rfl (r_pick rfl rfl rfl) (F.qn rfl (r_move rfl) ?_)
     iterate 3 refine F.skf rfl rfl ?_
     refine F.qn rfl (r_pick rfl rfl rfl) (F.qn rfl (r_move rfl) ?_)
     iterate 3 refine F.skf rfl rfl ?_
     refine F.qn rfl (r_pick rfl rfl rfl) (F.qn rfl (r_move rfl) (F.skf rfl rfl (F.skf rfl rfl ?_)))
     refine F.sk rfl rfl rfl (wanted_undef rfl rfl rfl) ?_
     refine F.skf rfl rfl (F.qn rfl (r_pick rfl rfl rfl) (F.nil ?_))
     cases hE_1
     refine Nrm.only [3, 4, 5, 6, 9, 13, 17, 21, 22, 192] rfl ?_
     refine Nrm.pick [6, 1, 7, 8, 5, 3] rfl rfl ?_
     exact hj_1 _ _ ⟨rfl, rfl⟩
    ·replace hE_1 := if_ff g130 hE_1
     rcases Bool.eq_false_or_eq_true (t76_2 != t82_2) with g135 | g135
     ·replace hE_1 := if_tt g135 hE_1
      refine Tri.reg (l := List.range 72) rfl ?_
      refine F.qn rfl (r_move rfl) (F.qn rfl (r_move rfl) (F.qn rfl (r_neqB Tryz.underlying4 rfl rfl) (F.qn rfl (r_move rfl) (F.qg rfl g124 (r_move rfl) (F.qg rfl g124 (r_move rfl) ?_)))))
      refine F.qc rfl rfl rfl (wg rfl rfl rfl g124) (q_callF (xs := _) rfl ok19 rfl rfl (fun w hw => laws_vInts.ok h127 w ((rd_sl (i := 5) rfl) w hw) ((rd_sl (i := 4) rfl) w hw))) ?_
      refine F.qg rfl g124 (r_not rfl) (F.qn rfl (r_pickf rfl rfl g124) ?_)
      refine F.qn rfl (r_move rfl) (F.qg rfl g130 (r_move rfl) (F.qg rfl g130 (r_move rfl) (F.qg rfl g130 (r_neqB Tryz.underlying4 rfl rfl) (F.qn rfl (r_pickf rfl rfl g130) (F.qn rfl (r_move rfl) ?_)))))
      iterate 4 refine F.skf rfl g135 ?_
      refine F.qn rfl (r_pick rfl rfl g135) (F.qn rfl (r_move rfl) ?_)
      iterate 3 refine F.skf rfl rfl ?_
      refine F.qn rfl (r_pick rfl rfl rfl) (F.qn rfl (r_move rfl) ?_)
      iterate 3 refine F.skf rfl rfl ?_
      refine F.qn rfl (r_pick rfl rfl rfl) (F.qn rfl (r_move rfl) ?_)
      iterate 3 refine F.skf rfl rfl ?_
      refine F.qn rfl (r_pick rfl rfl rfl) (F.qn rfl (r_move rfl) ?_)
      iterate 4 refine F.skf rfl rfl ?_
      refine F.qn rfl (r_pick rfl rfl rfl) (F.qn rfl (r_move rfl) ?_)
      iterate 3 refine F.skf rfl rfl ?_
      refine F.qn rfl (r_pick rfl rfl rfl) (F.qn rfl (r_move rfl) ?_)
      iterate 3 refine F.skf rfl rfl ?_
      refine F.qn rfl (r_pick rfl rfl rfl) (F.qn rfl (r_move rfl) ?_)
      iterate 3 refine F.skf rfl rfl ?_
      refine F.qn rfl (r_pick rfl rfl rfl) (F.qn rfl (r_move rfl) ?_)
      iterate 3 refine F.skf rfl rfl ?_
      refine F.qn rfl (r_pick rfl rfl rfl) (F.qn rfl (r_move rfl) ?_)
      iterate 3 refine F.skf rfl rfl ?_
      refine F.qn rfl (r_pick rfl rfl rfl) (F.qn rfl (r_move rfl) (F.skf rfl rfl (F.skf rfl rfl ?_)))
      refine F.sk rfl rfl rfl (wanted_undef rfl rfl rfl) ?_
      refine F.skf rfl rfl (F.qn rfl (r_pick rfl rfl rfl) (F.nil ?_))
      cases hE_1
      refine Nrm.only [3, 4, 5, 6, 9, 13, 17, 21, 22, 192] rfl ?_
      refine Nrm.pick [6, 1, 7, 8, 5, 3] rfl rfl ?_
      exact hj_1 _ _ ⟨rfl, rfl⟩
     ·replace hE_1 := if_ff g135 hE_1
      obtain ⟨t138, h138, hE_1⟩ := bind_some hE_1
      rcases Bool.eq_false_or_eq_true (!t138) with g141 | g141
      ·replace hE_1 := if_tt g141 hE_1
       refine Tri.reg (l := List.range 72) rfl ?_
       refine F.qn rfl (r_move rfl) (F.qn rfl (r_move rfl) (F.qn rfl (r_neqB Tryz.underlying4 rfl rfl) (F.qn rfl (r_move rfl) (F.qg rfl g124 (r_move rfl) (F.qg rfl g124 (r_move rfl) ?_)))))
       refine F.qc rfl rfl rfl (wg rfl rfl rfl g124) (q_callF (xs := _) rfl ok19 rfl rfl (fun w hw => laws_vInts.ok h127 w ((rd_sl (i := 5) rfl) w hw) ((rd_sl (i := 4) rfl) w hw))) ?_
       refine F.qg rfl g124 (r_not rfl) (F.qn rfl (r_pickf rfl rfl g124) (F.qn rfl (r_move rfl) (F.qg rfl g130 (r_move rfl) ?_)))
       refine F.qg rfl g130 (r_move rfl) (F.qg rfl g130 (r_neqB Tryz.underlying4 rfl rfl) (F.qn rfl (r_pickf rfl rfl g130) (F.qn rfl (r_move rfl) (F.qg rfl g135 (r_move rfl) (F.qg rfl g135 (r_move rfl) ?_)))))
       refine F.qc rfl rfl rfl (wg rfl rfl rfl g135) (q_callF (xs := _) rfl ok19 rfl rfl (fun w hw => laws_vInts.ok h138 w ((rd_sl (i := 3) rfl) w hw) ((rd_sl (i := 2) rfl) w hw))) ?_
       refine F.qg rfl g135 (r_not rfl) (F.qn rfl (r_pickf rfl rfl g135) (F.qn rfl (r_move rfl) ?_))
       iterate 3 refine F.skf rfl g141 ?_
       refine F.qn rfl (r_pick rfl rfl g141) (F.qn rfl (r_move rfl) ?_)
       iterate 3 refine F.skf rfl rfl ?_
       refine F.qn rfl (r_pick rfl rfl rfl) (F.qn rfl (r_move rfl) ?_)
       iterate 3 refine F.skf rfl rfl ?_
       refine F.qn rfl (r_pick rfl rfl rfl) (F.qn rfl (r_move rfl) ?_)
       iterate 4 refine F.skf rfl rfl ?_
       refine F.qn rfl (r_pick rfl rfl rfl) (F.qn rfl (r_move rfl) ?_)
       iterate 3 refine F.skf rfl rfl ?_
       refine F.qn rfl (r_pick rfl rfl rfl) (F.qn rfl (r_move rfl) ?_)
       iterate 3 refine F.skf rfl rfl ?_
       refine F.qn rfl (r_pick rfl rfl rfl) (F.qn rfl (r_move rfl) ?_)
       iterate 3 refine F.skf rfl rfl ?_
       refine F.qn rfl (r_pick rfl rfl rfl) (F.qn rfl (r_move rfl) ?_)
       iterate 3 refine F.skf rfl rfl ?_
       refine F.qn rfl (r_pick rfl rfl rfl) (F.qn rfl (r_move rfl) ?_)
       iterate 3 refine F.skf rfl rfl ?_
       refine F.qn rfl (r_pick rfl rfl rfl) (F.qn rfl (r_move rfl) (F.skf rfl rfl (F.skf rfl rfl ?_)))
       refine F.sk rfl rfl rfl (wanted_undef rfl rfl rfl) ?_
       refine F.skf rfl rfl (F.qn rfl (r_pick rfl rfl rfl) (F.nil ?_))
       cases hE_1
       refine Nrm.only [3, 4, 5, 6, 9, 13, 17, 21, 22, 192] rfl ?_
       refine Nrm.pick [6, 1, 7, 8, 5, 3] rfl rfl ?_
       exact hj_1 _ _ ⟨rfl, rfl⟩
      ·replace hE_1 := if_ff g141 hE_1
       rcases Bool.eq_false_or_eq_true (t88_1 != t94_1) with g146 | g146
       ·replace hE_1 := if_tt g146 hE_1
        refine Tri.reg (l := List.range 72) rfl ?_
        refine F.qn rfl (r_move rfl) (F.qn rfl (r_move rfl) (F.qn rfl (r_neqB Tryz.underlying4 rfl rfl) (F.qn rfl (r_move rfl) (F.qg rfl g124 (r_move rfl) (F.qg rfl g124 (r_move rfl) ?_)))))
        refine F.qc rfl rfl rfl (wg rfl rfl rfl g124) (q_callF (xs := _) rfl ok19 rfl rfl (fun w hw => laws_vInts.ok h127 w ((rd_sl (i := 5) rfl) w hw) ((rd_sl (i := 4) rfl) w hw))) ?_
        refine F.qg rfl g124 (r_not rfl) (F.qn rfl (r_pickf rfl rfl g124) (F.qn rfl (r_move rfl) (F.qg rfl g130 (r_move rfl) ?_)))
        refine F.qg rfl g130 (r_move rfl) (F.qg rfl g130 (r_neqB Tryz.underlying4 rfl rfl) (F.qn rfl (r_pickf rfl rfl g130) (F.qn rfl (r_move rfl) (F.qg rfl g135 (r_move rfl) (F.qg rfl g135 (r_move rfl) ?_)))))
        refine F.qc rfl rfl rfl (wg rfl rfl rfl g135) (q_callF (xs := _) rfl ok19 rfl rfl (fun w hw => laws_vInts.ok h138 w ((rd_sl (i := 3) rfl) w hw) ((rd_sl (i := 2) rfl) w hw))) ?_
        refine F.qg rfl g135 (r_not rfl) (F.qn rfl (r_pickf rfl rfl g135) ?_)
        refine F.qn rfl (r_move rfl) (F.qg rfl g141 (r_move rfl) (F.qg rfl g141 (r_move rfl) (F.qg rfl g141 (r_neq rfl rfl) (F.qn rfl (r_pickf rfl rfl g141) (F.qn rfl (r_move rfl) ?_)))))
        iterate 3 refine F.skf rfl g146 ?_
        refine F.qn rfl (r_pick rfl rfl g146) (F.qn rfl (r_move rfl) ?_)
        iterate 3 refine F.skf rfl rfl ?_
        refine F.qn rfl (r_pick rfl rfl rfl) (F.qn rfl (r_move rfl) ?_)
        iterate 4 refine F.skf rfl rfl ?_
        refine F.qn rfl (r_pick rfl rfl rfl) (F.qn rfl (r_move rfl) ?_)
        iterate 3 refine F.skf rfl rfl ?_
        refine F.qn rfl (r_pick rfl rfl rfl) (F.qn rfl (r_move rfl) ?_)
        iterate 3 refine F.skf rfl rfl ?_
        refine F.qn rfl (r_pick rfl rfl rfl) (F.qn rfl (r_move rfl) ?_)
        iterate 3 refine F.skf rfl rfl ?_
        refine F.qn rfl (r_pick rfl rfl rfl) (F.qn rfl (r_move rfl) ?_)
        iterate 3 refine F.skf rfl rfl ?_
        refine F.qn rfl (r_pick rfl rfl rfl) (F.qn rfl (r_move rfl) ?_)
        iterate 3 refine F.skf rfl rfl ?_
        refine F.qn rfl (r_pick rfl rfl rfl) (F.qn rfl (r_move rfl) (F.skf rfl rfl (F.skf rfl rfl ?_)))
        refine F.sk rfl rfl rfl (wanted_undef rfl rfl rfl) ?_
        refine F.skf rfl rfl (F.qn rfl (r_pick rfl rfl rfl) (F.nil ?_))
        cases hE_1
        refine Nrm.only [3, 4, 5, 6, 9, 13, 17, 21, 22, 192] rfl ?_
        refine Nrm.pick [6, 1, 7, 8, 5, 3] rfl rfl ?_
        exact hj_1 _ _ ⟨rfl, rfl⟩
       ·replace hE_1 := if_ff g146 hE_1
        rcases Bool.eq_false_or_eq_true (t88_2 != t94_2) with g151 | g151
        ·replace hE_1 := if_tt g151 hE_1
         refine Tri.reg (l := List.range 72) rfl ?_
         refine F.qn rfl (r_move rfl) (F.qn rfl (r_move rfl) (F.qn rfl (r_neqB Tryz.underlying4 rfl rfl) (F.qn rfl (r_move rfl) (F.qg rfl g124 (r_move rfl) (F.qg rfl g124 (r_move rfl) ?_)))))
         refine F.qc rfl rfl rfl (wg rfl rfl rfl g124) (q_callF (xs := _) rfl ok19 rfl rfl (fun w hw => laws_vInts.ok h127 w ((rd_sl (i := 5) rfl) w hw) ((rd_sl (i := 4) rfl) w hw))) ?_
         refine F.qg rfl g124 (r_not rfl) (F.qn rfl (r_pickf rfl rfl g124) (F.qn rfl (r_move rfl) (F.qg rfl g130 (r_move rfl) ?_)))
         refine F.qg rfl g130 (r_move rfl) (F.qg rfl g130 (r_neqB Tryz.underlying4 rfl rfl) (F.qn rfl (r_pickf rfl rfl g130) (F.qn rfl (r_move rfl) (F.qg rfl g135 (r_move rfl) (F.qg rfl g135 (r_move rfl) ?_)))))
         refine F.qc rfl rfl rfl (wg rfl rfl rfl g135) (q_callF (xs := _) rfl ok19 rfl rfl (fun w hw => laws_vInts.ok h138 w ((rd_sl (i := 3) rfl) w hw) ((rd_sl (i := 2) rfl) w hw))) ?_
         refine F.qg rfl g135 (r_not rfl) ?_
         refine F.qn rfl (r_pickf rfl rfl g135) (F.qn rfl (r_move rfl) (F.qg rfl g141 (r_move rfl) (F.qg rfl g141 (r_move rfl) (F.qg rfl g141 (r_neq rfl rfl) (F.qn rfl (r_pickf rfl rfl g141) ?_)))))
         refine F.qn rfl (r_move rfl) (F.qg rfl g146 (r_move rfl) (F.qg rfl g146 (r_move rfl) (F.qg rfl g146 (r_neqB Tryz.underlying4 rfl rfl) (F.qn rfl (r_pickf rfl rfl g146) (F.qn rfl (r_move rfl) ?_)))))
         iterate 3 refine F.skf rfl g151 ?_
         refine F.qn rfl (r_pick rfl rfl g151) (F.qn rfl (r_move rfl) ?_)
         iterate 4 refine F.skf rfl rfl ?_
         refine F.qn rfl (r_pick rfl rfl rfl) (F.qn rfl (r_move rfl) ?_)
         iterate 3 refine F.skf rfl rfl ?_
         refine F.qn rfl (r_pick rfl rfl rfl) (F.qn rfl (r_move rfl) ?_)
         iterate 3 refine F.skf rfl rfl ?_
         refine F.qn rfl (r_pick rfl rfl rfl) (F.qn rfl (r_move rfl) ?_)
         iterate 3 refine F.skf rfl rfl ?_
         refine F.qn rfl (r_pick rfl rfl rfl) (F.qn rfl (r_move rfl) ?_)
         iterate 3 refine F.skf rfl rfl ?_
         refine F.qn rfl (r_pick rfl rfl rfl) (F.qn rfl (r_move rfl) ?_)
         iterate 3 refine F.skf rfl rfl ?_
         refine F.qn rfl (r_pick rfl rfl rfl) (F.qn rfl (r_move rfl) (F.skf rfl rfl (F.skf rfl rfl ?_)))
         refine F.sk rfl rfl rfl (wanted_undef rfl rfl rfl) ?_
         refine F.skf rfl rfl (F.qn rfl (r_pick rfl rfl rfl) (F.nil ?_))
         cases hE_1
         refine Nrm.only [3, 4, 5, 6, 9, 13, 17, 21, 22, 192] rfl ?_
         refine Nrm.pick [6, 1, 7, 8, 5, 3] rfl rfl ?_
         exact hj_1 _ _ ⟨rfl, rfl⟩
        ·replace hE_1 := if_ff g151 hE_1
         rcases Bool.eq_false_or_eq_true (t100_2 != t106_2) with g156 | g156
         ·replace hE_1 := if_tt g156 hE_1
          refine Tri.reg (l := List.range 72) rfl ?_
          refine F.qn rfl (r_move rfl) (F.qn rfl (r_move rfl) (F.qn rfl (r_neqB Tryz.underlying4 rfl rfl) (F.qn rfl (r_move rfl) (F.qg rfl g124 (r_move rfl) (F.qg rfl g124 (r_move rfl) ?_)))))
          refine F.qc rfl rfl rfl (wg rfl rfl rfl g124) (q_callF (xs := _) rfl ok19 rfl rfl (fun w hw => laws_vInts.ok h127 w ((rd_sl (i := 5) rfl) w hw) ((rd_sl (i := 4) rfl) w hw))) ?_
          refine F.qg rfl g124 (r_not rfl) (F.qn rfl (r_pickf rfl rfl g124) (F.qn rfl (r_move rfl) (F.qg rfl g130 (r_move rfl) ?_)))
          refine F.qg rfl g130 (r_move rfl) (F.qg rfl g130 (r_neqB Tryz.underlying4 rfl rfl) (F.qn rfl (r_pickf rfl rfl g130) (F.qn rfl (r_move rfl) (F.qg rfl g135 (r_move rfl) (F.qg rfl g135 (r_move rfl) ?_)))))
          refine F.qc rfl rfl rfl (wg rfl rfl rfl g135) (q_callF (xs := _) rfl ok19 rfl rfl (fun w hw => laws_vInts.ok h138 w ((rd_sl (i := 3) rfl) w hw) ((rd_sl (i := 2) rfl) w hw))) ?_
          refine F.qg rfl g135 (r_not rfl) (F.qn rfl (r_pickf rfl rfl g135) (F.qn rfl (r_move rfl) (F.qg rfl g141 (r_move rfl) (F.qg rfl g141 (r_move rfl) (F.qg rfl g141 (r_neq rfl rfl) ?_)))))
          refine F.qn rfl (r_pickf rfl rfl g141) (F.qn rfl (r_move rfl) (F.qg rfl g146 (r_move rfl) (F.qg rfl g146 (r_move rfl) (F.qg rfl g146 (r_neqB Tryz.underlying4 rfl rfl) (F.qn rfl (r_pickf rfl rfl g146) ?_)))))
          refine F.qn rfl (r_move rfl) (F.qg rfl g151 (r_move rfl) (F.qg rfl g151 (r_move rfl) (F.qg rfl g151 (r_neqB Tryz.underlying4 rfl rfl) (F.qn rfl (r_pickf rfl rfl g151) (F.qn rfl (r_move rfl) ?_)))))
          iterate 4 refine F.skf rfl g156 ?_
          refine F.qn rfl (r_pick rfl rfl g156) (F.qn rfl (r_move rfl) ?_)
          iterate 3 refine F.skf rfl rfl ?_
          refine F.qn rfl (r_pick rfl rfl rfl) (F.qn rfl (r_move rfl) ?_)
          iterate 3 refine F.skf rfl rfl ?_
          refine F.qn rfl (r_pick rfl rfl rfl) (F.qn rfl (r_move rfl) ?_)
          iterate 3 refine F.skf rfl rfl ?_
          refine F.qn rfl (r_pick rfl rfl rfl) (F.qn rfl (r_move rfl) ?_)
          iterate 3 refine F.skf rfl rfl ?_
          refine F.qn rfl (r_pick rfl rfl rfl) (F.qn rfl (r_move rfl) ?_)
          iterate 3 refine F.skf rfl rfl ?_
          refine F.qn rfl (r_pick rfl rfl rfl) (F.qn rfl (r_move rfl) (F.skf rfl rfl (F.skf rfl rfl ?_)))
          refine F.sk rfl rfl rfl (wanted_undef rfl rfl rfl) ?_
          refine F.skf rfl rfl (F.qn rfl (r_pick rfl rfl rfl) (F.nil ?_))
          cases hE_1
          refine Nrm.only [3, 4, 5, 6, 9, 13, 17, 21, 22, 192] rfl ?_
          refine Nrm.pick [6, 1, 7, 8, 5, 3] rfl rfl ?_
          exact hj_1 _ _ ⟨rfl, rfl⟩
         ·replace hE_1 := if_ff g156 hE_1
          obtain ⟨t159, h159, hE_1⟩ := bind_some hE_1
          rcases Bool.eq_false_or_eq_true (!t159) with g162 | g162
          ·replace hE_1 := if_tt g162 hE_1
           refine Tri.reg (l := List.range 72) rfl ?_
           refine F.qn rfl (r_move rfl) (F.qn rfl (r_move rfl) (F.qn rfl (r_neqB Tryz.underlying4 rfl rfl) (F.qn rfl (r_move rfl) (F.qg rfl g124 (r_move rfl) (F.qg rfl g124 (r_move rfl) ?_)))))
           refine F.qc rfl rfl rfl (wg rfl rfl rfl g124) (q_callF (xs := _) rfl ok19 rfl rfl (fun w hw => laws_vInts.ok h127 w ((rd_sl (i := 5) rfl) w hw) ((rd_sl (i := 4) rfl) w hw))) ?_
           refine F.qg rfl g124 (r_not rfl) (F.qn rfl (r_pickf rfl rfl g124) (F.qn rfl (r_move rfl) (F.qg rfl g130 (r_move rfl) ?_)))
           refine F.qg rfl g130 (r_move rfl) (F.qg rfl g130 (r_neqB Tryz.underlying4 rfl rfl) (F.qn rfl (r_pickf rfl rfl g130) (F.qn rfl (r_move rfl) (F.qg rfl g135 (r_move rfl) (F.qg rfl g135 (r_move rfl) ?_)))))
           refine F.qc rfl rfl rfl (wg rfl rfl rfl g135) (q_callF (xs := _) rfl ok19 rfl rfl (fun w hw => laws_vInts.ok h138 w ((rd_sl (i := 3) rfl) w hw) ((rd_sl (i := 2) rfl) w hw))) ?_
           refine F.qg rfl g135 (r_not rfl) (F.qn rfl (r_pickf rfl rfl g135) ?_)
           refine F.qn rfl (r_move rfl) (F.qg rfl g141 (r_move rfl) (F.qg rfl g141 (r_move rfl) (F.qg rfl g141 (r_neq rfl rfl) (F.qn rfl (r_pickf rfl rfl g141) (F.qn rfl (r_move rfl) ?_)))))
           refine F.qg rfl g146 (r_move rfl) (F.qg rfl g146 (r_move rfl) (F.qg rfl g146 (r_neqB Tryz.underlying4 rfl rfl) (F.qn rfl (r_pickf rfl rfl g146) (F.qn rfl (r_move rfl) (F.qg rfl g151 (r_move rfl) ?_)))))
           refine F.qg rfl g151 (r_move rfl) (F.qg rfl g151 (r_neqB Tryz.underlying4 rfl rfl) (F.qn rfl (r_pickf rfl rfl g151) (F.qn rfl (r_move rfl) (F.qg rfl g156 (r_move rfl) (F.qg rfl g156 (r_move rfl) ?_)))))
           refine F.qc rfl rfl rfl (wg rfl rfl rfl g156) (q_callF (xs := _) rfl ok19 rfl rfl (fun w hw => laws_vInts.ok h159 w ((rd_sl (i := 1) rfl) w hw) ((rd_sl (i := 0) rfl) w hw))) ?_
           refine F.qg rfl g156 (r_not rfl) (F.qn rfl (r_pickf rfl rfl g156) (F.qn rfl (r_move rfl) ?_))
           iterate 3 refine F.skf rfl g162 ?_
           refine F.qn rfl (r_pick rfl rfl g162) (F.qn rfl (r_move rfl) ?_)
           iterate 3 refine F.skf rfl rfl ?_
           refine F.qn rfl (r_pick rfl rfl rfl) (F.qn rfl (r_move rfl) ?_)
           iterate 3 refine F.skf rfl rfl ?_
           refine F.qn rfl (r_pick rfl rfl rfl) (F.qn rfl (r_move rfl) ?_)
           iterate 3 refine F.skf rfl rfl ?_
           refine F.qn rfl (r_pick rfl rfl rfl) (F.qn rfl (r_move rfl) ?_)
           iterate 3 refine F.skf rfl rfl ?_
           refine F.qn rfl (r_pick rfl rfl rfl) (F.qn rfl (r_move rfl) (F.skf rfl rfl (F.skf rfl rfl ?_)))
           refine F.sk rfl rfl rfl (wanted_undef rfl rfl rfl) ?_
           refine F.skf rfl rfl (F.qn rfl (r_pick rfl rfl rfl) (F.nil ?_))
           cases hE_1
           refine Nrm.only [3, 4, 5, 6, 9, 13, 17, 21, 22, 192] rfl ?_
           refine Nrm.pick [6, 1, 7, 8, 5, 3] rfl rfl ?_
           exact hj_1 _ _ ⟨rfl, rfl⟩
          ·replace hE_1 := if_ff g162 hE_1
           rcases Bool.eq_false_or_eq_true (t112_1 != t118_1) with g167 | g167
           ·replace hE_1 := if_tt g167 hE_1
            refine Tri.reg (l := List.range 72) rfl ?_
            refine F.qn rfl (r_move rfl) (F.qn rfl (r_move rfl) (F.qn rfl (r_neqB Tryz.underlying4 rfl rfl) (F.qn rfl (r_move rfl) (F.qg rfl g124 (r_move rfl) (F.qg rfl g124 (r_move rfl) ?_)))))
            refine F.qc rfl rfl rfl (wg rfl rfl rfl g124) (q_callF (xs := _) rfl ok19 rfl rfl (fun w hw => laws_vInts.ok h127 w ((rd_sl (i := 5) rfl) w hw) ((rd_sl (i := 4) rfl) w hw))) ?_
            refine F.qg rfl g124 (r_not rfl) (F.qn rfl (r_pickf rfl rfl g124) (F.qn rfl (r_move rfl) (F.qg rfl g130 (r_move rfl) ?_)))
            refine F.qg rfl g130 (r_move rfl) (F.qg rfl g130 (r_neqB Tryz.underlying4 rfl rfl) (F.qn rfl (r_pickf rfl rfl g130) (F.qn rfl (r_move rfl) (F.qg rfl g135 (r_move rfl) (F.qg rfl g135 (r_move rfl) ?_)))))
            refine F.qc rfl rfl rfl (wg rfl rfl rfl g135) (q_callF (xs := _) rfl ok19 rfl rfl (fun w hw => laws_vInts.ok h138 w ((rd_sl (i := 3) rfl) w hw) ((rd_sl (i := 2) rfl) w hw))) ?_
            refine F.qg rfl g135 (r_not rfl) (F.qn rfl (r_pickf rfl rfl g135) ?_)
            refine F.qn rfl (r_move rfl) (F.qg rfl g141 (r_move rfl) (F.qg rfl g141 (r_move rfl) (F.qg rfl g141 (r_neq rfl rfl) (F.qn rfl (r_pickf rfl rfl g141) (F.qn rfl (r_move rfl) ?_)))))
            refine F.qg rfl g146 (r_move rfl) (F.qg rfl g146 (r_move rfl) (F.qg rfl g146 (r_neqB Tryz.underlying4 rfl rfl) (F.qn rfl (r_pickf rfl rfl g146) (F.qn rfl (r_move rfl) (F.qg rfl g151 (r_move rfl) ?_)))))
            refine F.qg rfl g151 (r_move rfl) (F.qg rfl g151 (r_neqB Tryz.underlying4 rfl rfl) (F.qn rfl (r_pickf rfl rfl g151) (F.qn rfl (r_move rfl) (F.qg rfl g156 (r_move rfl) (F.qg rfl g156 (r_move rfl) ?_)))))
            refine F.qc rfl rfl rfl (wg rfl rfl rfl g156) (q_callF (xs := _) rfl ok19 rfl rfl (fun w hw => laws_vInts.ok h159 w ((rd_sl (i := 1) rfl) w hw) ((rd_sl (i := 0) rfl) w hw))) ?_
            refine F.qg rfl g156 (r_not rfl) (F.qn rfl (r_pickf rfl rfl g156) ?_)
            refine F.qn rfl (r_move rfl) (F.qg rfl g162 (r_move rfl) (F.qg rfl g162 (r_move rfl) (F.qg rfl g162 (r_neq rfl rfl) (F.qn rfl (r_pickf rfl rfl g162) (F.qn rfl (r_move rfl) ?_)))))
            iterate 3 refine F.skf rfl g167 ?_
            refine F.qn rfl (r_pick rfl rfl g167) (F.qn rfl (r_move rfl) ?_)
            iterate 3 refine F.skf rfl rfl ?_
            refine F.qn rfl (r_pick rfl rfl rfl) (F.qn rfl (r_move rfl) ?_)
            iterate 3 refine F.skf rfl rfl ?_
            refine F.qn rfl (r_pick rfl rfl rfl) (F.qn rfl (r_move rfl) ?_)
            iterate 3 refine F.skf rfl rfl ?_
            refine F.qn rfl (r_pick rfl rfl rfl) (F.qn rfl (r_move rfl) (F.skf rfl rfl (F.skf rfl rfl ?_)))
            refine F.sk rfl rfl rfl (wanted_undef rfl rfl rfl) ?_
            refine F.skf rfl rfl (F.qn rfl (r_pick rfl rfl rfl) (F.nil ?_))
            cases hE_1
            refine Nrm.only [3, 4, 5, 6, 9, 13, 17, 21, 22, 192] rfl ?_
            refine Nrm.pick [6, 1, 7, 8, 5, 3] rfl rfl ?_
            exact hj_1 _ _ ⟨rfl, rfl⟩
           ·replace hE_1 := if_ff g167 hE_1
            rcases Bool.eq_false_or_eq_true (t112_2 != t118_2) with g172 | g172
            ·replace hE_1 := if_tt g172 hE_1
             refine Tri.reg (l := List.range 72) rfl ?_
             refine F.qn rfl (r_move rfl) (F.qn rfl (r_move rfl) (F.qn rfl (r_neqB Tryz.underlying4 rfl rfl) (F.qn rfl (r_move rfl) (F.qg rfl g124 (r_move rfl) (F.qg rfl g124 (r_move rfl) ?_)))))
             refine F.qc rfl rfl rfl (wg rfl rfl rfl g124) (q_callF (xs := _) rfl ok19 rfl rfl (fun w hw => laws_vInts.ok h127 w ((rd_sl (i := 5) rfl) w hw) ((rd_sl (i := 4) rfl) w hw))) ?_
             refine F.qg rfl g124 (r_not rfl) (F.qn rfl (r_pickf rfl rfl g124) (F.qn rfl (r_move rfl) (F.qg rfl g130 (r_move rfl) ?_)))
             refine F.qg rfl g130 (r_move rfl) (F.qg rfl g130 (r_neqB Tryz.underlying4 rfl rfl) (F.qn rfl (r_pickf rfl rfl g130) (F.qn rfl (r_move rfl) (F.qg rfl g135 (r_move rfl) (F.qg rfl g135 (r_move rfl) ?_)))))
             refine F.qc rfl rfl rfl (wg rfl rfl rfl g135) (q_callF (xs := _) rfl ok19 rfl rfl (fun w hw => laws_vInts.ok h138 w ((rd_sl (i := 3) rfl) w hw) ((rd_sl (i := 2) rfl) w hw))) ?_
             refine F.qg rfl g135 (r_not rfl) (F.qn rfl (r_pickf rfl rfl g135) ?_)
             refine F.qn rfl (r_move rfl) (F.qg rfl g141 (r_move rfl) (F.qg rfl g141 (r_move rfl) (F.qg rfl g141 (r_neq rfl rfl) (F.qn rfl (r_pickf rfl rfl g141) (F.qn rfl (r_move rfl) ?_)))))
             refine F.qg rfl g146 (r_move rfl) (F.qg rfl g146 (r_move rfl) (F.qg rfl g146 (r_neqB Tryz.underlying4 rfl rfl) (F.qn rfl (r_pickf rfl rfl g146) (F.qn rfl (r_move rfl) (F.qg rfl g151 (r_move rfl) ?_)))))
             refine F.qg rfl g151 (r_move rfl) (F.qg rfl g151 (r_neqB Tryz.underlying4 rfl rfl) (F.qn rfl (r_pickf rfl rfl g151) (F.qn rfl (r_move rfl) (F.qg rfl g156 (r_move rfl) (F.qg rfl g156 (r_move rfl) ?_)))))
             refine F.qc rfl rfl rfl (wg rfl rfl rfl g156) (q_callF (xs := _) rfl ok19 rfl rfl (fun w hw => laws_vInts.ok h159 w ((rd_sl (i := 1) rfl) w hw) ((rd_sl (i := 0) rfl) w hw))) ?_
             refine F.qg rfl g156 (r_not rfl) ?_
             refine F.qn rfl (r_pickf rfl rfl g156) (F.qn rfl (r_move rfl) (F.qg rfl g162 (r_move rfl) (F.qg rfl g162 (r_move rfl) (F.qg rfl g162 (r_neq rfl rfl) (F.qn rfl (r_pickf rfl rfl g162) ?_)))))
             refine F.qn rfl (r_move rfl) (F.qg rfl g167 (r_move rfl) (F.qg rfl g167 (r_move rfl) (F.qg rfl g167 (r_neqB Tryz.underlying4 rfl rfl) (F.qn rfl (r_pickf rfl rfl g167) (F.qn rfl (r_move rfl) ?_)))))
             iterate 3 refine F.skf rfl g172 ?_
             refine F.qn rfl (r_pick rfl rfl g172) (F.qn rfl (r_move rfl) ?_)
             iterate 3 refine F.skf rfl rfl ?_
             refine F.qn rfl (r_pick rfl rfl rfl) (F.qn rfl (r_move rfl) ?_)
             iterate 3 refine F.skf rfl rfl ?_
             refine F.qn rfl (r_pick rfl rfl rfl) (F.qn rfl (r_move rfl) (F.skf rfl rfl (F.skf rfl rfl ?_)))
             refine F.sk rfl rfl rfl (wanted_undef rfl rfl rfl) ?_
             refine F.skf rfl rfl (F.qn rfl (r_pick rfl rfl rfl) (F.nil ?_))
             cases hE_1
             refine Nrm.only [3, 4, 5, 6, 9, 13, 17, 21, 22, 192] rfl ?_
             refine Nrm.pick [6, 1, 7, 8, 5, 3] rfl rfl ?_
             exact hj_1 _ _ ⟨rfl, rfl⟩
            ·replace hE_1 := if_ff g172 hE_1
             rcases Bool.eq_false_or_eq_true (t64_2 != t76_2) with g177 | g177
             ·replace hE_1 := if_tt g177 hE_1
              refine Tri.reg (l := List.range 72) rfl ?_
              refine F.qn rfl (r_move rfl) (F.qn rfl (r_move rfl) (F.qn rfl (r_neqB Tryz.underlying4 rfl rfl) (F.qn rfl (r_move rfl) (F.qg rfl g124 (r_move rfl) (F.qg rfl g124 (r_move rfl) ?_)))))
              refine F.qc rfl rfl rfl (wg rfl rfl rfl g124) (q_callF (xs := _) rfl ok19 rfl rfl (fun w hw => laws_vInts.ok h127 w ((rd_sl (i := 5) rfl) w hw) ((rd_sl (i := 4) rfl) w hw))) ?_
              refine F.qg rfl g124 (r_not rfl) (F.qn rfl (r_pickf rfl rfl g124) (F.qn rfl (r_move rfl) (F.qg rfl g130 (r_move rfl) ?_)))
              refine F.qg rfl g130 (r_move rfl) (F.qg rfl g130 (r_neqB Tryz.underlying4 rfl rfl) (F.qn rfl (r_pickf rfl rfl g130) (F.qn rfl (r_move rfl) (F.qg rfl g135 (r_move rfl) (F.qg rfl g135 (r_move rfl) ?_)))))
              refine F.qc rfl rfl rfl (wg rfl rfl rfl g135) (q_callF (xs := _) rfl ok19 rfl rfl (fun w hw => laws_vInts.ok h138 w ((rd_sl (i := 3) rfl) w hw) ((rd_sl (i := 2) rfl) w hw))) ?_
              refine F.qg rfl g135 (r_not rfl) (F.qn rfl (r_pickf rfl rfl g135) ?_)
              refine F.qn rfl (r_move rfl) (F.qg rfl g141 (r_move rfl) (F.qg rfl g141 (r_move rfl) (F.qg rfl g141 (r_neq rfl rfl) (F.qn rfl (r_pickf rfl rfl g141) (F.qn rfl (r_move rfl) ?_)))))
              refine F.qg rfl g146 (r_move rfl) (F.qg rfl g146 (r_move rfl) (F.qg rfl g146 (r_neqB Tryz.underlying4 rfl rfl) (F.qn rfl (r_pickf rfl rfl g146) (F.qn rfl (r_move rfl) (F.qg rfl g151 (r_move rfl) ?_)))))
              refine F.qg rfl g151 (r_move rfl) (F.qg rfl g151 (r_neqB Tryz.underlying4 rfl rfl) (F.qn rfl (r_pickf rfl rfl g151) (F.qn rfl (r_move rfl) (F.qg rfl g156 (r_move rfl) (F.qg rfl g156 (r_move rfl) ?_)))))
              refine F.qc rfl rfl rfl (wg rfl rfl rfl g156) (q_callF (xs := _) rfl ok19 rfl rfl (fun w hw => laws_vInts.ok h159 w ((rd_sl (i := 1) rfl) w hw) ((rd_sl (i := 0) rfl) w hw))) ?_
              refine F.qg rfl g156 (r_not rfl) (F.qn rfl (r_pickf rfl rfl g156) (F.qn rfl (r_move rfl) (F.qg rfl g162 (r_move rfl) (F.qg rfl g162 (r_move rfl) (F.qg rfl g162 (r_neq rfl rfl) ?_)))))
              refine F.qn rfl (r_pickf rfl rfl g162) (F.qn rfl (r_move rfl) (F.qg rfl g167 (r_move rfl) (F.qg rfl g167 (r_move rfl) (F.qg rfl g167 (r_neqB Tryz.underlying4 rfl rfl) (F.qn rfl (r_pickf rfl rfl g167) ?_)))))
              refine F.qn rfl (r_move rfl) (F.qg rfl g172 (r_move rfl) (F.qg rfl g172 (r_move rfl) (F.qg rfl g172 (r_neqB Tryz.underlying4 rfl rfl) (F.qn rfl (r_pickf rfl rfl g172) (F.qn rfl (r_move rfl) ?_)))))
              iterate 3 refine F.skf rfl g177 ?_
              refine F.qn rfl (r_pick rfl rfl g177) (F.qn rfl (r_move rfl) ?_)
              iterate 3 refine F.skf rfl rfl ?_
              refine F.qn rfl (r_pick rfl rfl rfl) (F.qn rfl (r_move rfl) (F.skf rfl rfl (F.skf rfl rfl ?_)))
              refine F.sk rfl rfl rfl (wanted_undef rfl rfl rfl) ?_
              refine F.skf rfl rfl (F.qn rfl (r_pick rfl rfl rfl) (F.nil ?_))
              cases hE_1
              refine Nrm.only [3, 4, 5, 6, 9, 13, 17, 21, 22, 192] rfl ?_
              refine Nrm.pick [6, 1, 7, 8, 5, 3] rfl rfl ?_
              exact hj_1 _ _ ⟨rfl, rfl⟩
             ·replace hE_1 := if_ff g177 hE_1
              rcases Bool.eq_false_or_eq_true (t64_2 != t88_2) with g182 | g182
              ·replace hE_1 := if_tt g182 hE_1
               refine Tri.reg (l := List.range 72) rfl ?_
               refine F.qn rfl (r_move rfl) (F.qn rfl (r_move rfl) (F.qn rfl (r_neqB Tryz.underlying4 rfl rfl) (F.qn rfl (r_move rfl) (F.qg rfl g124 (r_move rfl) (F.qg rfl g124 (r_move rfl) ?_)))))
               refine F.qc rfl rfl rfl (wg rfl rfl rfl g124) (q_callF (xs := _) rfl ok19 rfl rfl (fun w hw => laws_vInts.ok h127 w ((rd_sl (i := 5) rfl) w hw) ((rd_sl (i := 4) rfl) w hw))) ?_
               refine F.qg rfl g124 (r_not rfl) (F.qn rfl (r_pickf rfl rfl g124) (F.qn rfl (r_move rfl) (F.qg rfl g130 (r_move rfl) ?_)))
               refine F.qg rfl g130 (r_move rfl) (F.qg rfl g130 (r_neqB Tryz.underlying4 rfl rfl) (F.qn rfl (r_pickf rfl rfl g130) (F.qn rfl (r_move rfl) (F.qg rfl g135 (r_move rfl) (F.qg rfl g135 (r_move rfl) ?_)))))
               refine F.qc rfl rfl rfl (wg rfl rfl rfl g135) (q_callF (xs := _) rfl ok19 rfl rfl (fun w hw => laws_vInts.ok h138 w ((rd_sl (i := 3) rfl) w hw) ((rd_sl (i := 2) rfl) w hw))) ?_
               refine F.qg rfl g135 (r_not rfl) (F.qn rfl (r_pickf rfl rfl g135) ?_)
               refine F.qn rfl (r_move rfl) (F.qg rfl g141 (r_move rfl) (F.qg rfl g141 (r_move rfl) (F.qg rfl g141 (r_neq rfl rfl) (F.qn rfl (r_pickf rfl rfl g141) (F.qn rfl (r_move rfl) ?_)))))
               refine F.qg rfl g146 (r_move rfl) (F.qg rfl g146 (r_move rfl) (F.qg rfl g146 (r_neqB Tryz.underlying4 rfl rfl) (F.qn rfl (r_pickf rfl rfl g146) (F.qn rfl (r_move rfl) (F.qg rfl g151 (r_move rfl) ?_)))))
               refine F.qg rfl g151 (r_move rfl) (F.qg rfl g151 (r_neqB Tryz.underlying4 rfl rfl) (F.qn rfl (r_pickf rfl rfl g151) (F.qn rfl (r_move rfl) (F.qg rfl g156 (r_move rfl) (F.qg rfl g156 (r_move rfl) ?_)))))
               refine F.qc rfl rfl rfl (wg rfl rfl rfl g156) (q_callF (xs := _) rfl ok19 rfl rfl (fun w hw => laws_vInts.ok h159 w ((rd_sl (i := 1) rfl) w hw) ((rd_sl (i := 0) rfl) w hw))) ?_
               refine F.qg rfl g156 (r_not rfl) (F.qn rfl (r_pickf rfl rfl g156) (F.qn rfl (r_move rfl) (F.qg rfl g162 (r_move rfl) (F.qg rfl g162 (r_move rfl) ?_))))
               refine F.qg rfl g162 (r_neq rfl rfl) (F.qn rfl (r_pickf rfl rfl g162) (F.qn rfl (r_move rfl) (F.qg rfl g167 (r_move rfl) (F.qg rfl g167 (r_move rfl) (F.qg rfl g167 (r_neqB Tryz.underlying4 rfl rfl) ?_)))))
               refine F.qn rfl (r_pickf rfl rfl g167) (F.qn rfl (r_move rfl) (F.qg rfl g172 (r_move rfl) (F.qg rfl g172 (r_move rfl) (F.qg rfl g172 (r_neqB Tryz.underlying4 rfl rfl) (F.qn rfl (r_pickf rfl rfl g172) ?_)))))
               refine F.qn rfl (r_move rfl) (F.qg rfl g177 (r_move rfl) (F.qg rfl g177 (r_move rfl) (F.qg rfl g177 (r_neqB Tryz.underlying4 rfl rfl) (F.qn rfl (r_pickf rfl rfl g177) (F.qn rfl (r_move rfl) ?_)))))
               iterate 3 refine F.skf rfl g182 ?_
               refine F.qn rfl (r_pick rfl rfl g182) (F.qn rfl (r_move rfl) (F.skf rfl rfl (F.skf rfl rfl ?_)))
               refine F.sk rfl rfl rfl (wanted_undef rfl rfl rfl) ?_
               refine F.skf rfl rfl (F.qn rfl (r_pick rfl rfl rfl) (F.nil ?_))
               cases hE_1
               refine Nrm.only [3, 4, 5, 6, 9, 13, 17, 21, 22, 192] rfl ?_
               refine Nrm.pick [6, 1, 7, 8, 5, 3] rfl rfl ?_
               exact hj_1 _ _ ⟨rfl, rfl⟩
              ·replace hE_1 := if_ff g182 hE_1
               rcases Bool.eq_false_or_eq_true (t64_2 != t100_2) with g187 | g187
               ·replace hE_1 := if_tt g187 hE_1
                refine Tri.reg (l := List.range 72) rfl ?_
                refine F.qn rfl (r_move rfl) (F.qn rfl (r_move rfl) (F.qn rfl (r_neqB Tryz.underlying4 rfl rfl) (F.qn rfl (r_move rfl) (F.qg rfl g124 (r_move rfl) (F.qg rfl g124 (r_move rfl) ?_)))))
                refine F.qc rfl rfl rfl (wg rfl rfl rfl g124) (q_callF (xs := _) rfl ok19 rfl rfl (fun w hw => laws_vInts.ok h127 w ((rd_sl (i := 5) rfl) w hw) ((rd_sl (i := 4) rfl) w hw))) ?_
                refine F.qg rfl g124 (r_not rfl) (F.qn rfl (r_pickf rfl rfl g124) (F.qn rfl (r_move rfl) (F.qg rfl g130 (r_move rfl) ?_)))
                refine F.qg rfl g130 (r_move rfl) (F.qg rfl g130 (r_neqB Tryz.underlying4 rfl rfl) (F.qn rfl (r_pickf rfl rfl g130) (F.qn rfl (r_move rfl) (F.qg rfl g135 (r_move rfl) (F.qg rfl g135 (r_move rfl) ?_)))))
                refine F.qc rfl rfl rfl (wg rfl rfl rfl g135) (q_callF (xs := _) rfl ok19 rfl rfl (fun w hw => laws_vInts.ok h138 w ((rd_sl (i := 3) rfl) w hw) ((rd_sl (i := 2) rfl) w hw))) ?_
                refine F.qg rfl g135 (r_not rfl) (F.qn rfl (r_pickf rfl rfl g135) ?_)
                refine F.qn rfl (r_move rfl) (F.qg rfl g141 (r_move rfl) (F.qg rfl g141 (r_move rfl) (F.qg rfl g141 (r_neq rfl rfl) (F.qn rfl (r_pickf rfl rfl g141) (F.qn rfl (r_move rfl) ?_)))))
                refine F.qg rfl g146 (r_move rfl) (F.qg rfl g146 (r_move rfl) (F.qg rfl g146 (r_neqB Tryz.underlying4 rfl rfl) (F.qn rfl (r_pickf rfl rfl g146) (F.qn rfl (r_move rfl) (F.qg rfl g151 (r_move rfl) ?_)))))
                refine F.qg rfl g151 (r_move rfl) (F.qg rfl g151 (r_neqB Tryz.underlying4 rfl rfl) (F.qn rfl (r_pickf rfl rfl g151) (F.qn rfl (r_move rfl) (F.qg rfl g156 (r_move rfl) (F.qg rfl g156 (r_move rfl) ?_)))))
                refine F.qc rfl rfl rfl (wg rfl rfl rfl g156) (q_callF (xs := _) rfl ok19 rfl rfl (fun w hw => laws_vInts.ok h159 w ((rd_sl (i := 1) rfl) w hw) ((rd_sl (i := 0) rfl) w hw))) ?_
                refine F.qg rfl g156 (r_not rfl) (F.qn rfl (r_pickf rfl rfl g156) (F.qn rfl (r_move rfl) (F.qg rfl g162 (r_move rfl) (F.qg rfl g162 (r_move rfl) (F.qg rfl g162 (r_neq rfl rfl) ?_)))))
                refine F.qn rfl (r_pickf rfl rfl g162) (F.qn rfl (r_move rfl) (F.qg rfl g167 (r_move rfl) (F.qg rfl g167 (r_move rfl) (F.qg rfl g167 (r_neqB Tryz.underlying4 rfl rfl) (F.qn rfl (r_pickf rfl rfl g167) ?_)))))
                refine F.qn rfl (r_move rfl) (F.qg rfl g172 (r_move rfl) (F.qg rfl g172 (r_move rfl) (F.qg rfl g172 (r_neqB Tryz.underlying4 rfl rfl) (F.qn rfl (r_pickf rfl rfl g172) (F.qn rfl (r_move rfl) ?_)))))
                refine F.qg rfl g177 (r_move rfl) (F.qg rfl g177 (r_move rfl) (F.qg rfl g177 (r_neqB Tryz.underlying4 rfl rfl) (F.qn rfl (r_pickf rfl rfl g177) (F.qn rfl (r_move rfl) (F.qg rfl g182 (r_move rfl) ?_)))))
                refine F.qg rfl g182 (r_move rfl) (F.qg rfl g182 (r_neqB Tryz.underlying4 rfl rfl) (F.qn rfl (r_pickf rfl rfl g182) (F.qn rfl (r_move rfl) (F.skf rfl g187 (F.skf rfl g187 ?_)))))
                refine F.sk rfl rfl rfl (wanted_undef rfl rfl rfl) ?_
                refine F.skf rfl g187 (F.qn rfl (r_pick rfl rfl g187) (F.nil ?_))
                cases hE_1
                refine Nrm.only [3, 4, 5, 6, 9, 13, 17, 21, 22, 192] rfl ?_
                refine Nrm.pick [6, 1, 7, 8, 5, 3] rfl rfl ?_
                exact hj_1 _ _ ⟨rfl, rfl⟩
               ·replace hE_1 := if_ff g187 hE_1
                rcases Bool.eq_false_or_eq_true (t64_2) with g189 | g189
                ·replace hE_1 := if_tt g189 hE_1
                 refine Tri.reg (l := List.range 72) rfl ?_
                 refine F.qn rfl (r_move rfl) (F.qn rfl (r_move rfl) (F.qn rfl (r_neqB Tryz.underlying4 rfl rfl) (F.qn rfl (r_move rfl) (F.qg rfl g124 (r_move rfl) (F.qg rfl g124 (r_move rfl) ?_)))))
                 refine F.qc rfl rfl rfl (wg rfl rfl rfl g124) (q_callF (xs := _) rfl ok19 rfl rfl (fun w hw => laws_vInts.ok h127 w ((rd_sl (i := 5) rfl) w hw) ((rd_sl (i := 4) rfl) w hw))) ?_
                 refine F.qg rfl g124 (r_not rfl) (F.qn rfl (r_pickf rfl rfl g124) (F.qn rfl (r_move rfl) (F.qg rfl g130 (r_move rfl) ?_)))
                 refine F.qg rfl g130 (r_move rfl) (F.qg rfl g130 (r_neqB Tryz.underlying4 rfl rfl) (F.qn rfl (r_pickf rfl rfl g130) (F.qn rfl (r_move rfl) (F.qg rfl g135 (r_move rfl) (F.qg rfl g135 (r_move rfl) ?_)))))
                 refine F.qc rfl rfl rfl (wg rfl rfl rfl g135) (q_callF (xs := _) rfl ok19 rfl rfl (fun w hw => laws_vInts.ok h138 w ((rd_sl (i := 3) rfl) w hw) ((rd_sl (i := 2) rfl) w hw))) ?_
                 refine F.qg rfl g135 (r_not rfl) (F.qn rfl (r_pickf rfl rfl g135) ?_)
                 refine F.qn rfl (r_move rfl) (F.qg rfl g141 (r_move rfl) (F.qg rfl g141 (r_move rfl) (F.qg rfl g141 (r_neq rfl rfl) (F.qn rfl (r_pickf rfl rfl g141) (F.qn rfl (r_move rfl) ?_)))))
                 refine F.qg rfl g146 (r_move rfl) (F.qg rfl g146 (r_move rfl) (F.qg rfl g146 (r_neqB Tryz.underlying4 rfl rfl) (F.qn rfl (r_pickf rfl rfl g146) (F.qn rfl (r_move rfl) (F.qg rfl g151 (r_move rfl) ?_)))))
                 refine F.qg rfl g151 (r_move rfl) (F.qg rfl g151 (r_neqB Tryz.underlying4 rfl rfl) (F.qn rfl (r_pickf rfl rfl g151) (F.qn rfl (r_move rfl) (F.qg rfl g156 (r_move rfl) (F.qg rfl g156 (r_move rfl) ?_)))))
                 refine F.qc rfl rfl rfl (wg rfl rfl rfl g156) (q_callF (xs := _) rfl ok19 rfl rfl (fun w hw => laws_vInts.ok h159 w ((rd_sl (i := 1) rfl) w hw) ((rd_sl (i := 0) rfl) w hw))) ?_
                 refine F.qg rfl g156 (r_not rfl) (F.qn rfl (r_pickf rfl rfl g156) (F.qn rfl (r_move rfl) ?_))
                 refine F.qg rfl g162 (r_move rfl) (F.qg rfl g162 (r_move rfl) (F.qg rfl g162 (r_neq rfl rfl) (F.qn rfl (r_pickf rfl rfl g162) (F.qn rfl (r_move rfl) (F.qg rfl g167 (r_move rfl) ?_)))))
                 refine F.qg rfl g167 (r_move rfl) (F.qg rfl g167 (r_neqB Tryz.underlying4 rfl rfl) (F.qn rfl (r_pickf rfl rfl g167) (F.qn rfl (r_move rfl) (F.qg rfl g172 (r_move rfl) (F.qg rfl g172 (r_move rfl) ?_)))))
                 refine F.qg rfl g172 (r_neqB Tryz.underlying4 rfl rfl) (F.qn rfl (r_pickf rfl rfl g172) (F.qn rfl (r_move rfl) (F.qg rfl g177 (r_move rfl) (F.qg rfl g177 (r_move rfl) (F.qg rfl g177 (r_neqB Tryz.underlying4 rfl rfl) ?_)))))
                 refine F.qn rfl (r_pickf rfl rfl g177) (F.qn rfl (r_move rfl) (F.qg rfl g182 (r_move rfl) (F.qg rfl g182 (r_move rfl) (F.qg rfl g182 (r_neqB Tryz.underlying4 rfl rfl) (F.qn rfl (r_pickf rfl rfl g182) ?_)))))
                 refine F.qn rfl (r_move rfl) (F.qg rfl g187 (r_move rfl) (F.qg rfl g187 (r_move rfl) (F.qg rfl g189 (r_move rfl) (F.qg rfl g187 (r_pick rfl rfl g189) (F.qn rfl (r_pickf rfl rfl g187) (F.nil ?_))))))
                 cases hE_1
                 refine Nrm.only [3, 4, 5, 6, 9, 13, 17, 21, 22, 192] rfl ?_
                 refine Nrm.pick [6, 1, 7, 8, 5, 3] rfl rfl ?_
                 exact hj_1 _ _ ⟨rfl, rfl⟩
                ·replace hE_1 := if_ff g189 hE_1
                 refine Tri.reg (l := List.range 72) rfl ?_
                 refine F.qn rfl (r_move rfl) (F.qn rfl (r_move rfl) (F.qn rfl (r_neqB Tryz.underlying4 rfl rfl) (F.qn rfl (r_move rfl) (F.qg rfl g124 (r_move rfl) (F.qg rfl g124 (r_move rfl) ?_)))))
                 refine F.qc rfl rfl rfl (wg rfl rfl rfl g124) (q_callF (xs := _) rfl ok19 rfl rfl (fun w hw => laws_vInts.ok h127 w ((rd_sl (i := 5) rfl) w hw) ((rd_sl (i := 4) rfl) w hw))) ?_
                 refine F.qg rfl g124 (r_not rfl) (F.qn rfl (r_pickf rfl rfl g124) (F.qn rfl (r_move rfl) (F.qg rfl g130 (r_move rfl) ?_)))
                 refine F.qg rfl g130 (r_move rfl) (F.qg rfl g130 (r_neqB Tryz.underlying4 rfl rfl) (F.qn rfl (r_pickf rfl rfl g130) (F.qn rfl (r_move rfl) (F.qg rfl g135 (r_move rfl) (F.qg rfl g135 (r_move rfl) ?_)))))
                 refine F.qc rfl rfl rfl (wg rfl rfl rfl g135) (q_callF (xs := _) rfl ok19 rfl rfl (fun w hw => laws_vInts.ok h138 w ((rd_sl (i := 3) rfl) w hw) ((rd_sl (i := 2) rfl) w hw))) ?_
                 refine F.qg rfl g135 (r_not rfl) (F.qn rfl (r_pickf rfl rfl g135) ?_)
                 refine F.qn rfl (r_move rfl) (F.qg rfl g141 (r_move rfl) (F.qg rfl g141 (r_move rfl) (F.qg rfl g141 (r_neq rfl rfl) (F.qn rfl (r_pickf rfl rfl g141) (F.qn rfl (r_move rfl) ?_)))))
                 refine F.qg rfl g146 (r_move rfl) (F.qg rfl g146 (r_move rfl) (F.qg rfl g146 (r_neqB Tryz.underlying4 rfl rfl) (F.qn rfl (r_pickf rfl rfl g146) (F.qn rfl (r_move rfl) (F.qg rfl g151 (r_move rfl) ?_)))))
                 refine F.qg rfl g151 (r_move rfl) (F.qg rfl g151 (r_neqB Tryz.underlying4 rfl rfl) (F.qn rfl (r_pickf rfl rfl g151) (F.qn rfl (r_move rfl) (F.qg rfl g156 (r_move rfl) (F.qg rfl g156 (r_move rfl) ?_)))))
                 refine F.qc rfl rfl rfl (wg rfl rfl rfl g156) (q_callF (xs := _) rfl ok19 rfl rfl (fun w hw => laws_vInts.ok h159 w ((rd_sl (i := 1) rfl) w hw) ((rd_sl (i := 0) rfl) w hw))) ?_
                 refine F.qg rfl g156 (r_not rfl) (F.qn rfl (r_pickf rfl rfl g156) (F.qn rfl (r_move rfl) ?_))
                 refine F.qg rfl g162 (r_move rfl) (F.qg rfl g162 (r_move rfl) (F.qg rfl g162 (r_neq rfl rfl) (F.qn rfl (r_pickf rfl rfl g162) (F.qn rfl (r_move rfl) (F.qg rfl g167 (r_move rfl) ?_)))))
                 refine F.qg rfl g167 (r_move rfl) (F.qg rfl g167 (r_neqB Tryz.underlying4 rfl rfl) (F.qn rfl (r_pickf rfl rfl g167) (F.qn rfl (r_move rfl) (F.qg rfl g172 (r_move rfl) (F.qg rfl g172 (r_move rfl) ?_)))))
                 refine F.qg rfl g172 (r_neqB Tryz.underlying4 rfl rfl) (F.qn rfl (r_pickf rfl rfl g172) (F.qn rfl (r_move rfl) (F.qg rfl g177 (r_move rfl) (F.qg rfl g177 (r_move rfl) (F.qg rfl g177 (r_neqB Tryz.underlying4 rfl rfl) ?_)))))
                 refine F.qn rfl (r_pickf rfl rfl g177) (F.qn rfl (r_move rfl) (F.qg rfl g182 (r_move rfl) (F.qg rfl g182 (r_move rfl) (F.qg rfl g182 (r_neqB Tryz.underlying4 rfl rfl) (F.qn rfl (r_pickf rfl rfl g182) ?_)))))
                 refine F.qn rfl (r_move rfl) (F.qg rfl g187 (r_move rfl) (F.qg rfl g187 (r_move rfl) (F.skf rfl g189 (F.qg rfl g187 (r_pickf rfl rfl g189) (F.qn rfl (r_pickf rfl rfl g187) (F.nil ?_))))))
                 cases hE_1
                 refine Nrm.only [3, 4, 5, 6, 9, 13, 17, 21, 22, 192] rfl ?_
                 refine Nrm.pick [6, 1, 7, 8, 5, 3] rfl rfl ?_
                 exact hj_1 _ _ ⟨rfl, rfl⟩


def spec_l2Joins.f (k : Nat) (a0_0 : Int) (a0_1 : Int) (a0_2 : Int) (a1 : Int) (a2 : Int) : Option (Bool) := ((if (a0_0 == a1) = true then (if (a0_1 == a2) = true then some true else (if (a0_0 == a2) = true then some (a0_1 == a1) else some false)) else (if (a0_0 == a2) = true then some (a0_1 == a1) else some false))).bind fun y6 => some y6


def spec_l2Open.l0 (k : Nat) (a0_1 : List (Int × Int × Int)) (a1 : Int) (a2 : Int) (a3 : Int) : Nat → Int → Option ((Unit) ⊕ (Bool))
 | 0, _ => none
 | n + 1, x9 => (if (decide (x9 < (a0_1.length : Int))) = true then ((rdl a0_1 x9).bind fun t20 => (spec_l2Joins.f k t20.1 t20.2.1 t20.2.2 a1 a2).bind fun t24 => (if t24 = true then (rdl a0_1 x9).bind fun t30 => (spec_l2Has.f k a3 t30.2.2).bind fun t33 => some t33 else some false)).bind fun y34 => (if y34 = true then some (Sum.inr true) else spec_l2Open.l0 k a0_1 a1 a2 a3 n (w64 (x9 + 1))) else some (Sum.inl ()))

def spec_l2Open.f (k : Nat) (a0_0 : Int) (a0_1 : List (Int × Int × Int)) (a0_2 : List Int) (a1 : Int) (a2 : Int) (a3 : Int) : Option (Bool) := (spec_l2Open.l0 k a0_1 a1 a2 a3 k 0).bind fun s => Lr s some fun _ => some false


def slices_Index__3int__3int.l0 (k : Nat) (a0 : List (Int × Int × Int)) (a1_0 : Int) (a1_1 : Int) (a1_2 : Int) : Nat → Int → Option ((Unit) ⊕ (Int))
 | 0, _ => none
 | n + 1, x8 => (if (decide (x8 < (a0.length : Int))) = true then (rdl a0 x8).bind fun t14 => (if (decide ((a1_0, a1_1, a1_2) = (t14.1, t14.2.1, t14.2.2))) = true then some (Sum.inr x8) else slices_Index__3int__3int.l0 k a0 a1_0 a1_1 a1_2 n (w64 (x8 + 1))) else some (Sum.inl ()))

def slices_Index__3int__3int.f (k : Nat) (a0 : List (Int × Int × Int)) (a1_0 : Int) (a1_1 : Int) (a1_2 : Int) : Option (Int) := (slices_Index__3int__3int.l0 k a0 a1_0 a1_1 a1_2 k 0).bind fun s => Lr s some fun _ => some (-1)


def slices_Contains__3int__3int.f (k : Nat) (a0 : List (Int × Int × Int)) (a1_0 : Int) (a1_1 : Int) (a1_2 : Int) : Option (Bool) := (slices_Index__3int__3int.f k a0 a1_0 a1_1 a1_2).bind fun t7 => some (decide (t7 ≥ 0))

end Go.Proofs

/- Contracts of the library, laid at this seat. f5350282d22d6eeb -/
namespace Go.Proofs
open Go.Shelf
end Go.Proofs

/- slices.SortFunc[[][3]int,[3]int] -/

namespace Go.Proofs
open Go Go.Ga
set_option linter.unusedVariables false
set_option maxRecDepth 100000
set_option maxHeartbeats 4000000
open Classical in
noncomputable def slices_SortFunc__3int__3int.f (k : Nat) (a0 : List (Int × Int × Int)) (a1 : (Int → Int → Int → Int → Int → Int → Option (Int))) : Option (List (Int × Int × Int)) := if a0.length < 4611686018427387904 ∧ ∃ cf : Tri3 → Tri3 → Int, (∀ x y, cf x y < 0 ↔ TLt x y) ∧ ∀ x y : Tri3, a1 x.1 x.2.1 x.2.2 y.1 y.2.1 y.2.2 = some (cf x y) then some (a0.mergeSort fun x y => !decide (TLt y x)) else none

end Go.Proofs

/- slices.Compact[[][3]int,[3]int] -/

namespace Go.Proofs
open Go Go.Ga
set_option linter.unusedVariables false
set_option maxRecDepth 100000
set_option maxHeartbeats 4000000
def slices_Compact__3int__3int.l1 (k : Nat) (t28 : List (Int × Int × Int)) : Nat → (List (Int × Int × Int)) → Int → Int → Option ((List (Int × Int × Int)) × Int)
 | 0, _, _, _ => none
 | n + 1, x0, x3r, x5 => (if (decide (x5 < (t28.length : Int))) = true then none else some (x0, x3r))

def slices_Compact__3int__3int.l0 (k : Nat) (a0 : List (Int × Int × Int)) : Nat → Int → Option ((Unit) ⊕ ((List (Int × Int × Int))))
 | 0, _ => none
 | n + 1, x3 => (if (decide (x3 < (a0.length : Int))) = true then (rdl a0 x3).bind fun t18 => (rdl a0 (w64 (x3 - 1))).bind fun t23 => (if (decide ((t18.1, t18.2.1, t18.2.2) = (t23.1, t23.2.1, t23.2.2))) = true then (slc a0 x3 (a0.length : Int)).bind fun t28 => (slices_Compact__3int__3int.l1 k t28 k a0 x3 1).bind fun (x0, x3r) => (slc x0 x3r (x0.length : Int)).bind fun t56 => (slc (x0.take (x3r : Int).toNat ++ List.replicate (((x0.length : Int) : Int).toNat - (x3r : Int).toNat) ((0, 0, 0) : Int × Int × Int) ++ x0.drop ((x0.length : Int) : Int).toNat) 0 x3r).bind fun t59 => some (Sum.inr t59) else slices_Compact__3int__3int.l0 k a0 n (w64 (x3 + 1))) else some (Sum.inl ()))

def slices_Compact__3int__3int.f (k : Nat) (a0 : List (Int × Int × Int)) : Option ((List (Int × Int × Int))) := (if (decide ((a0.length : Int) < 2)) = true then some a0 else (slices_Compact__3int__3int.l0 k a0 k 1).bind fun s => Lr s some fun _ => some a0)


noncomputable def impl_tidy.l0 (k : Nat) (a0_1 : List (Int × Int × Int)) : Nat → (List (Int × Int × Int)) → Int → Option ((List (Int × Int × Int)))
 | 0, _, _ => none
 | n + 1, x6, x8 => (if (decide (x8 < (a0_1.length : Int))) = true then (rdl x6 x8).bind fun t11 => (rdl x6 x8).bind fun t29 => impl_tidy.l0 k a0_1 n (x6.set x8.toNat (imin t11.1 t11.2.1, imax t11.1 t11.2.1, t11.2.2)) (w64 (x8 + 1)) else some x6)

noncomputable def impl_tidy.f (k : Nat) (a0_0 : Int) (a0_1 : List (Int × Int × Int)) (a0_2 : List Int) : Option (Int × (List (Int × Int × Int)) × (List Int)) := (impl_tidy.l0 k a0_1 k a0_1 0).bind fun x6 => (slices_SortFunc__3int__3int.f k x6 (fun z0 z1 z2 z3 z4 z5 => impl_compareDoors.f k z0 z1 z2 z3 z4 z5)).bind fun t33 => (slices_Compact__3int__3int.f k t33).bind fun t36 => some (a0_0, t36, a0_2)


noncomputable def impl_AddDoor.f (k : Nat) (a0_0 : Int) (a0_1 : List (Int × Int × Int)) (a0_2 : List Int) (a1 : Int) (a2 : Int) (a3 : Int) : Option (Int × (List (Int × Int × Int)) × (List Int) × Bool) := ((impl_isNode.f k a0_0 a0_1 a0_2 ([a1, a2] : List (Int))).bind fun t24 => (if (!t24) = true then some true else (if (a1 == a2) = true then some true else (impl_isSet.f k a3).bind fun t33 => (if (!t33) = true then some true else (slices_Contains__3int__3int.f k a0_1 (imin a1 a2) (imax a1 a2) a3).bind fun t40 => (if t40 = true then some true else some ((a0_1.length : Int) == 30)))))).bind fun y47 => (if y47 = true then some (0, [], [], false) else (impl_own.f k a0_0 a0_1 a0_2).bind fun (t50_1, t50_2, t50_3) => if (t50_2 ++ ([(imin a1 a2, imax a1 a2, a3)] : List (Int × Int × Int))).length < 1099511627776 then (impl_tidy.f k t50_1 (t50_2 ++ ([(imin a1 a2, imax a1 a2, a3)] : List (Int × Int × Int))) t50_3).bind fun (t58_1, t58_2, t58_3) => some (t58_1, t58_2, t58_3, true) else none)


def spec_DropDoor.f (k : Nat) (a0_0 : Int) (a0_1 : List (Int × Int × Int)) (a0_2 : List Int) (a1 : Int) : Option (Int × (List (Int × Int × Int)) × (List Int) × Bool) := ((spec_l2Maze.f k a0_0 a0_1 a0_2).bind fun t8 => (if (!t8) = true then some true else (spec_l1In.f k a1 0 (w64 ((a0_1.length : Int) - 1))).bind fun t16 => some (!t16))).bind fun y18 => (if y18 = true then some (0, [], [], false) else (spec_l2Own.f k a0_0 a0_1 a0_2).bind fun (t21_1, t21_2, t21_3) => (slc a0_1 0 a1).bind fun t26 => (slc a0_1 (w64 (a1 + 1)) (a0_1.length : Int)).bind fun t32 => if (([] : List (Int × Int × Int)) ++ t26).length < 1099511627776 then if ((([] : List (Int × Int × Int)) ++ t26) ++ t32).length < 1099511627776 then some (t21_1, (([] : List (Int × Int × Int)) ++ t26) ++ t32, t21_3, true) else none else none)

end Go.Proofs
