/- A part of the proof of FnFillings: what the functions of the program compute, walked on the model. No condition. -/
import Derived.Test.YtebbaacgalipaaaFnFillingsC
import Derived.Test.YtebbaacgalipaaaFnFillingsD
import Derived.Test.YtebbaacgalipaaaFnFillingsE
import Derived.Test.YtebbaacgalipaaaFnFillingsF
set_option linter.unusedSimpArgs false
/- loop.example/g01158/laws.FnFillings -/
namespace Go.Proofs
open Go Go.Ga
set_option linter.unusedVariables false
set_option maxRecDepth 100000
set_option maxHeartbeats 4000000
def laws_FnFillings.f (k : Nat) (a0 : List By) : Option (Bool) := (laws_vBig.f k a0).bind fun t38 => (if t38 = true then some true else (spec_DrawCountFillings.f k a0).bind fun (t41_1, t41_2, t41_3, t41_4) => (impl_CountFillings.f k t41_1 t41_2 t41_3 t41_4).bind fun (t47_1, t47_2) => (spec_CountFillings.f k t41_1 t41_2 t41_3 t41_4).bind fun (t53_1, t53_2) => (impl_FirstFilling.f k t41_1 t41_2 t41_3 t41_4).bind fun (t59_1, t59_2) => (spec_FirstFilling.f k t41_1 t41_2 t41_3 t41_4).bind fun (t65_1, t65_2) => (impl_DeepestFilling.f k t41_1 t41_2 t41_3 t41_4).bind fun (t71_1, t71_2, t71_3) => (spec_DeepestFilling.f k t41_1 t41_2 t41_3 t41_4).bind fun (t78_1, t78_2, t78_3) => (laws_vCut.f k a0 1).bind fun t84 => (spec_DrawNodeCounts.f k t84).bind fun (t85_1, t85_2, t85_3, t85_4, t85_5) => (impl_NodeCounts.f k t85_1 t85_2 t85_3 t85_4 t85_5).bind fun (t93_1, t93_2) => (spec_NodeCounts.f k t85_1 t85_2 t85_3 t85_4 t85_5).bind fun (t100_1, t100_2) => ((if (t47_1 != t53_1) = true then some true else (if (t47_2 != t53_2) = true then some true else (if (t59_2 != t65_2) = true then some true else (laws_vInts.f k t59_1 t65_1).bind fun t119 => (if (!t119) = true then some true else (if (t71_2 != t78_2) = true then some true else (if (t71_3 != t78_3) = true then some true else (laws_vInts.f k t71_1 t78_1).bind fun t135 => (if (!t135) = true then some true else (if (t93_2 != t100_2) = true then some true else (laws_vInts.f k t93_1 t100_1).bind fun t146 => (if (!t146) = true then some true else (if (t59_2 != t71_3) = true then some true else (if t47_2 = true then some (t59_2 != (decide (t47_1 > 0))) else some (t59_2 != false))))))))))))).bind fun y162 => (if y162 = true then some false else (if t93_2 = true then (impl_CountFillings.f k t85_1 t85_2 t85_3 t85_4).bind fun (t167_1, t167_2) => ((if (!t167_2) = true then some true else (laws_vAdd.f k t93_1).bind fun t174 => some (t174 != t167_1))).bind fun y177 => (if y177 = true then some false else (if (!t47_2) = true then some true else (impl_ColoursOf.f k t41_4).bind fun (t182_1, t182_2) => if 0 ≤ (t182_1.length : Int) ∧ (t182_1.length : Int) < 1099511627776 then (impl_FillingWins.f k t41_1 t41_2 t41_3 t41_4 (List.replicate ((t182_1.length : Int)).toNat (0 : Int))).bind fun (t192_1, t192_2) => ((if (!t182_2) = true then some true else (if (!t192_2) = true then some true else some (t192_1 != (decide (t47_1 > 0)))))).bind fun y206 => (if y206 = true then some false else (if (!t59_2) = true then some true else (impl_FillingDepth.f k t41_1 t41_2 t41_3 t41_4 t71_1).bind fun (t213_1, t213_2) => (impl_FillingDepth.f k t41_1 t41_2 t41_3 t41_4 t59_1).bind fun (t220_1, t220_2) => ((if t213_2 = true then (if t220_2 = true then (if (t213_1 == t71_2) = true then some (decide (t220_1 ≤ t71_2)) else some false) else some false) else some false)).bind fun y2 => some y2)) else none)) else (if (!t47_2) = true then some true else (impl_ColoursOf.f k t41_4).bind fun (t182_1, t182_2) => if 0 ≤ (t182_1.length : Int) ∧ (t182_1.length : Int) < 1099511627776 then (impl_FillingWins.f k t41_1 t41_2 t41_3 t41_4 (List.replicate ((t182_1.length : Int)).toNat (0 : Int))).bind fun (t192_1, t192_2) => ((if (!t182_2) = true then some true else (if (!t192_2) = true then some true else some (t192_1 != (decide (t47_1 > 0)))))).bind fun y206r => (if y206r = true then some false else (if (!t59_2) = true then some true else (impl_FillingDepth.f k t41_1 t41_2 t41_3 t41_4 t71_1).bind fun (t213_1, t213_2) => (impl_FillingDepth.f k t41_1 t41_2 t41_3 t41_4 t59_1).bind fun (t220_1, t220_2) => ((if t213_2 = true then (if t220_2 = true then (if (t213_1 == t71_2) = true then some (decide (t220_1 ≤ t71_2)) else some false) else some false) else some false)).bind fun y2r => some y2r)) else none))))

theorem laws_FnFillings.ok {k : Nat}  {a0 : List By} {r0 : Bool} (h : laws_FnFillings.f k a0 = some r0) (w : World) {va0 : Value} (hr_a0 : Rd w va0 a0) :
    Calls Try.prog 3 ([va0] : List Value).toArray w (fun e w' => e = .returned (.bool r0) ∧ Ext w w') := by
  unfold laws_FnFillings.f at h
  have hl_va0 := hr_a0.len
  refine Calls.of_tri (N := 237) Try.func3 rfl rfl rfl (Sep.nil (M := noM)) ?_
  refine Tri.seq ?_
  refine Tri.reg (l := [0]) rfl ?_
  refine F.q rfl rfl rfl (wanted_none rfl) (r_assign rfl) ?_
  refine F.nil ?_
  refine Nrm.seq ?_
  refine Tri.seq ?_
  refine Tri.seq ?_
  obtain ⟨t38, h38, h⟩ := bind_some h
  refine Tri.reg (l := [0, 1]) rfl ?_
  refine F.q rfl rfl rfl (wanted_none rfl) (r_move rfl) ?_
  refine F.qc rfl rfl rfl (wanted_none rfl) (q_callF (xs := _) rfl ok8 rfl rfl (fun w hw => laws_vBig.ok h38 w ((fun _ hw => hr_a0.sep hw) w hw))) ?_
  refine F.nil ?_
  refine Nrm.seq ?_
  refine Tri.cond (b := t38) rfl (fun g_1 => ?_) (fun g_1 => ?_)
  · replace h := if_tt g_1 h
    refine Tri.seq ?_
    refine Tri.reg (l := [0]) rfl ?_
    refine F.q rfl rfl rfl (wanted_none rfl) (r_assign rfl) ?_
    refine F.nil ?_
    refine Nrm.seq ?_
    refine Tri.ret ?_
    refine Rtn.then ?_
    cases h
    exact Rtn.body (.tmp rfl .nil) (fun w hw => ⟨rfl, hw.ext⟩)
  · replace h := if_ff g_1 h
    refine Tri.skip ?_
    refine Nrm.seq ?_
    refine Tri.seq ?_
    obtain ⟨⟨t41_1, t41_2, t41_3, t41_4⟩, h41, h⟩ := bind_some h
    refine Tri.reg (l := [0, 1, 2, 3, 4, 5, 6, 7]) rfl ?_
    refine F.q rfl rfl rfl (wanted_none rfl) (r_move rfl) ?_
    refine F.m rfl rfl rfl (wanted_none rfl) (m_callF (xs := _) rfl ok9 rfl rfl (fun w hw => spec_DrawCountFillings.ok h41 w ((fun _ hw => hr_a0.sep hw) w hw))) ?_
    rintro _ _ ⟨_, ⟨v41_1, S41_1, v41_2, S41_2, rfl, hl_v41_1, hl_v41_2, rfl⟩, rfl⟩
    refine F.q rfl rfl rfl (wanted_none rfl) (r_move rfl) ?_
    refine F.q rfl rfl rfl (wanted_none rfl) (r_extract rfl rfl) ?_
    refine F.q rfl rfl rfl (wanted_none rfl) (r_extract rfl rfl) ?_
    refine F.m rfl rfl rfl (wanted_none rfl) (m_alloc ti27) ?_
    rintro _ _ ⟨b3_1, rfl, rfl⟩
    refine F.ef0 rfl rfl (wanted_none rfl) (d_storeG0 (i := 0) (cs2 := [.int .i64 t41_1, v41_1, v41_2]) ti27 rfl rfl rfl rfl rfl (Nat.le_of_ble_eq_true rfl) (lf_cons rfl (lf_cons (sl_leaf hl_v41_1) (lf_cons (sl_leaf hl_v41_2) lf_nil)))) ?_
    rintro _ _ ⟨rfl, rfl⟩
    refine F.q rfl rfl rfl (wanted_none rfl) (r_assign rfl) ?_
    refine F.nil ?_
    refine Nrm.seq ?_
    refine Tri.seq ?_
    obtain ⟨⟨t47_1, t47_2⟩, h47, h⟩ := bind_some h
    refine Tri.reg (l := [0, 1, 2, 3, 4, 5, 6, 7]) rfl ?_
    refine F.q rfl rfl rfl (wanted_none rfl) (r_loadA ta27 ti27 rfl rfl (fun w hw => (box_cells (i := 0) rfl w hw))) ?_
    refine F.q rfl rfl rfl (wanted_none rfl) (r_move rfl) ?_
    refine F.qc rfl rfl rfl (wanted_none rfl) (q_callF (xs := _) rfl ok10 rfl rfl (fun w hw => impl_CountFillings.ok h47 w ((rd_sl (i := 1) rfl) w hw) ((rd_sl (i := 2) rfl) w hw))) ?_
    refine F.q rfl rfl rfl (wanted_none rfl) (r_move rfl) ?_
    refine F.q rfl rfl rfl (wanted_none rfl) (r_extract rfl rfl) ?_
    refine F.q rfl rfl rfl (wanted_none rfl) (r_extract rfl rfl) ?_
    refine F.q rfl rfl rfl (wanted_none rfl) (r_assign rfl) ?_
    refine F.q rfl rfl rfl (wanted_none rfl) (r_assign rfl) ?_
    refine F.nil ?_
    refine Nrm.seq ?_
    refine Tri.seq ?_
    obtain ⟨⟨t53_1, t53_2⟩, h53, h⟩ := bind_some h
    refine Tri.reg (l := [0, 1, 2, 3, 4, 5, 6, 7]) rfl ?_
    refine F.q rfl rfl rfl (wanted_none rfl) (r_loadA ta27 ti27 rfl rfl (fun w hw => (box_cells (i := 0) rfl w hw))) ?_
    refine F.q rfl rfl rfl (wanted_none rfl) (r_move rfl) ?_
    refine F.qc rfl rfl rfl (wanted_none rfl) (q_callF (xs := _) rfl ok11 rfl rfl (fun w hw => spec_CountFillings.ok h53 w ((rd_sl (i := 1) rfl) w hw) ((rd_sl (i := 2) rfl) w hw))) ?_
    refine F.q rfl rfl rfl (wanted_none rfl) (r_move rfl) ?_
    refine F.q rfl rfl rfl (wanted_none rfl) (r_extract rfl rfl) ?_
    refine F.q rfl rfl rfl (wanted_none rfl) (r_extract rfl rfl) ?_
    refine F.q rfl rfl rfl (wanted_none rfl) (r_assign rfl) ?_
    refine F.q rfl rfl rfl (wanted_none rfl) (r_assign rfl) ?_
    refine F.nil ?_
    refine Nrm.seq ?_
    refine Tri.seq ?_
    obtain ⟨⟨t59_1, t59_2⟩, h59, h⟩ := bind_some h
    refine Tri.reg (l := [0, 1, 2, 3, 4, 5, 6, 7]) rfl ?_
    refine F.q rfl rfl rfl (wanted_none rfl) (r_loadA ta27 ti27 rfl rfl (fun w hw => (box_cells (i := 0) rfl w hw))) ?_
    refine F.q rfl rfl rfl (wanted_none rfl) (r_move rfl) ?_
    refine F.m rfl rfl rfl (wanted_none rfl) (m_callF (xs := _) rfl ok12 rfl rfl (fun w hw => impl_FirstFilling.ok h59 w ((rd_sl (i := 1) rfl) w hw) ((rd_sl (i := 2) rfl) w hw))) ?_
    rintro _ _ ⟨_, ⟨v59_1, S59_1, rfl, hl_v59_1, rfl⟩, rfl⟩
    refine F.q rfl rfl rfl (wanted_none rfl) (r_move rfl) ?_
    refine F.q rfl rfl rfl (wanted_none rfl) (r_extract rfl rfl) ?_
    refine F.q rfl rfl rfl (wanted_none rfl) (r_extract rfl rfl) ?_
    refine F.q rfl rfl rfl (wanted_none rfl) (r_assign rfl) ?_
    refine F.q rfl rfl rfl (wanted_none rfl) (r_assign rfl) ?_
    refine F.nil ?_
    refine Nrm.seq ?_
    refine Tri.seq ?_
    obtain ⟨⟨t65_1, t65_2⟩, h65, h⟩ := bind_some h
    refine Tri.reg (l := [0, 1, 2, 3, 4, 5, 6, 7]) rfl ?_
    refine F.q rfl rfl rfl (wanted_none rfl) (r_loadA ta27 ti27 rfl rfl (fun w hw => (box_cells (i := 1) rfl w hw))) ?_
    refine F.q rfl rfl rfl (wanted_none rfl) (r_move rfl) ?_
    refine F.m rfl rfl rfl (wanted_none rfl) (m_callF (xs := _) rfl ok13 rfl rfl (fun w hw => spec_FirstFilling.ok h65 w ((rd_sl (i := 2) rfl) w hw) ((rd_sl (i := 3) rfl) w hw))) ?_
    rintro _ _ ⟨_, ⟨v65_1, S65_1, rfl, hl_v65_1, rfl⟩, rfl⟩
    refine F.q rfl rfl rfl (wanted_none rfl) (r_move rfl) ?_
    refine F.q rfl rfl rfl (wanted_none rfl) (r_extract rfl rfl) ?_
    refine F.q rfl rfl rfl (wanted_none rfl) (r_extract rfl rfl) ?_
    refine F.q rfl rfl rfl (wanted_none rfl) (r_assign rfl) ?_
    refine F.q rfl rfl rfl (wanted_none rfl) (r_assign rfl) ?_
    refine F.nil ?_
    refine Nrm.seq ?_
    refine Tri.seq ?_
    obtain ⟨⟨t71_1, t71_2, t71_3⟩, h71, h⟩ := bind_some h
    refine Tri.reg (l := [0, 1, 2, 3, 4, 5, 6, 7, 8, 9]) rfl ?_
    refine F.q rfl rfl rfl (wanted_none rfl) (r_loadA ta27 ti27 rfl rfl (fun w hw => (box_cells (i := 2) rfl w hw))) ?_
    refine F.q rfl rfl rfl (wanted_none rfl) (r_move rfl) ?_
    refine F.m rfl rfl rfl (wanted_none rfl) (m_callF (xs := _) rfl ok14 rfl rfl (fun w hw => impl_DeepestFilling.ok h71 w ((rd_sl (i := 3) rfl) w hw) ((rd_sl (i := 4) rfl) w hw))) ?_
    rintro _ _ ⟨_, ⟨v71_1, S71_1, rfl, hl_v71_1, rfl⟩, rfl⟩
    refine F.q rfl rfl rfl (wanted_none rfl) (r_move rfl) ?_
    refine F.q rfl rfl rfl (wanted_none rfl) (r_extract rfl rfl) ?_
    refine F.q rfl rfl rfl (wanted_none rfl) (r_extract rfl rfl) ?_
    refine F.q rfl rfl rfl (wanted_none rfl) (r_extract rfl rfl) ?_
    refine F.q rfl rfl rfl (wanted_none rfl) (r_assign rfl) ?_
    refine F.q rfl rfl rfl (wanted_none rfl) (r_assign rfl) ?_
    refine F.q rfl rfl rfl (wanted_none rfl) (r_assign rfl) ?_
    refine F.nil ?_
    refine Nrm.seq ?_
    refine Tri.seq ?_
    obtain ⟨⟨t78_1, t78_2, t78_3⟩, h78, h⟩ := bind_some h
    refine Tri.reg (l := [0, 1, 2, 3, 4, 5, 6, 7, 8, 9]) rfl ?_
    refine F.q rfl rfl rfl (wanted_none rfl) (r_loadA ta27 ti27 rfl rfl (fun w hw => (box_cells (i := 3) rfl w hw))) ?_
    refine F.q rfl rfl rfl (wanted_none rfl) (r_move rfl) ?_
    refine F.m rfl rfl rfl (wanted_none rfl) (m_callF (xs := _) rfl ok15 rfl rfl (fun w hw => spec_DeepestFilling.ok h78 w ((rd_sl (i := 4) rfl) w hw) ((rd_sl (i := 5) rfl) w hw))) ?_
    rintro _ _ ⟨_, ⟨v78_1, S78_1, rfl, hl_v78_1, rfl⟩, rfl⟩
    refine F.q rfl rfl rfl (wanted_none rfl) (r_move rfl) ?_
    refine F.q rfl rfl rfl (wanted_none rfl) (r_extract rfl rfl) ?_
    refine F.q rfl rfl rfl (wanted_none rfl) (r_extract rfl rfl) ?_
    refine F.q rfl rfl rfl (wanted_none rfl) (r_extract rfl rfl) ?_
    refine F.q rfl rfl rfl (wanted_none rfl) (r_assign rfl) ?_
    refine F.q rfl rfl rfl (wanted_none rfl) (r_assign rfl) ?_
    refine F.q rfl rfl rfl (wanted_none rfl) (r_assign rfl) ?_
    refine F.nil ?_
    refine Nrm.seq ?_
    refine Tri.seq ?_
    obtain ⟨t84, h84, h⟩ := bind_some h
    obtain ⟨⟨t85_1, t85_2, t85_3, t85_4, t85_5⟩, h85, h⟩ := bind_some h
    refine Tri.reg (l := [0, 1, 2, 3, 4, 5, 6, 7, 8, 9, 10]) rfl ?_
    refine F.q rfl rfl rfl (wanted_none rfl) (r_move rfl) ?_
    refine F.m rfl rfl rfl (wanted_none rfl) (m_callF (xs := _) rfl ok17 rfl rfl (fun w hw => laws_vCut.ok h84 w ((fun _ hw => hr_a0.sep hw) w hw))) ?_
    rintro v84_1 _ ⟨_, ⟨S84_1, hl_v84_1, rfl⟩, rfl⟩
    refine F.m rfl rfl rfl (wanted_none rfl) (m_callF (xs := _) rfl ok16 rfl rfl (fun w hw => spec_DrawNodeCounts.ok h85 w ((rd_sl (i := 0) rfl) w hw))) ?_
    rintro _ _ ⟨_, ⟨v85_1, S85_1, v85_2, S85_2, rfl, hl_v85_1, hl_v85_2, rfl⟩, rfl⟩
    refine F.q rfl rfl rfl (wanted_none rfl) (r_move rfl) ?_
    refine F.q rfl rfl rfl (wanted_none rfl) (r_extract rfl rfl) ?_
    refine F.q rfl rfl rfl (wanted_none rfl) (r_extract rfl rfl) ?_
    refine F.q rfl rfl rfl (wanted_none rfl) (r_extract rfl rfl) ?_
    refine F.m rfl rfl rfl (wanted_none rfl) (m_alloc ti27) ?_
    rintro _ _ ⟨b19_1, rfl, rfl⟩
    refine F.ef0 rfl rfl (wanted_none rfl) (d_storeG0 (i := 0) (cs2 := [.int .i64 t85_1, v85_1, v85_2]) ti27 rfl rfl rfl rfl rfl (Nat.le_of_ble_eq_true rfl) (lf_cons rfl (lf_cons (sl_leaf hl_v85_1) (lf_cons (sl_leaf hl_v85_2) lf_nil)))) ?_
    rintro _ _ ⟨rfl, rfl⟩
    refine F.q rfl rfl rfl (wanted_none rfl) (r_assign rfl) ?_
    refine F.q rfl rfl rfl (wanted_none rfl) (r_assign rfl) ?_
    refine F.nil ?_
    refine Nrm.seq ?_
    refine Tri.seq ?_
    obtain ⟨⟨t93_1, t93_2⟩, h93, h⟩ := bind_some h
    refine Tri.reg (l := [0, 1, 2, 3, 4, 5, 6, 7, 8]) rfl ?_
    refine F.q rfl rfl rfl (wanted_none rfl) (r_loadA ta27 ti27 rfl rfl (fun w hw => (box_cells (i := 0) rfl w hw))) ?_
    refine F.q rfl rfl rfl (wanted_none rfl) (r_move rfl) ?_
    refine F.q rfl rfl rfl (wanted_none rfl) (r_move rfl) ?_
    refine F.m rfl rfl rfl (wanted_none rfl) (m_callF (xs := _) rfl ok18 rfl rfl (fun w hw => impl_NodeCounts.ok h93 w ((rd_sl (i := 1) rfl) w hw) ((rd_sl (i := 2) rfl) w hw))) ?_
    rintro _ _ ⟨_, ⟨v93_1, S93_1, rfl, hl_v93_1, rfl⟩, rfl⟩
    refine F.q rfl rfl rfl (wanted_none rfl) (r_move rfl) ?_
    refine F.q rfl rfl rfl (wanted_none rfl) (r_extract rfl rfl) ?_
    refine F.q rfl rfl rfl (wanted_none rfl) (r_extract rfl rfl) ?_
    refine F.q rfl rfl rfl (wanted_none rfl) (r_assign rfl) ?_
    refine F.q rfl rfl rfl (wanted_none rfl) (r_assign rfl) ?_
    refine F.nil ?_
    refine Nrm.seq ?_
    refine Tri.seq ?_
    obtain ⟨⟨t100_1, t100_2⟩, h100, h⟩ := bind_some h
    refine Tri.reg (l := [0, 1, 2, 3, 4, 5, 6, 7, 8]) rfl ?_
    refine F.q rfl rfl rfl (wanted_none rfl) (r_loadA ta27 ti27 rfl rfl (fun w hw => (box_cells (i := 1) rfl w hw))) ?_
    refine F.q rfl rfl rfl (wanted_none rfl) (r_move rfl) ?_
    refine F.q rfl rfl rfl (wanted_none rfl) (r_move rfl) ?_
    refine F.m rfl rfl rfl (wanted_none rfl) (m_callF (xs := _) rfl ok19 rfl rfl (fun w hw => spec_NodeCounts.ok h100 w ((rd_sl (i := 2) rfl) w hw) ((rd_sl (i := 3) rfl) w hw))) ?_
    rintro _ _ ⟨_, ⟨v100_1, S100_1, rfl, hl_v100_1, rfl⟩, rfl⟩
    refine F.q rfl rfl rfl (wanted_none rfl) (r_move rfl) ?_
    refine F.q rfl rfl rfl (wanted_none rfl) (r_extract rfl rfl) ?_
    refine F.q rfl rfl rfl (wanted_none rfl) (r_extract rfl rfl) ?_
    refine F.q rfl rfl rfl (wanted_none rfl) (r_assign rfl) ?_
    refine F.q rfl rfl rfl (wanted_none rfl) (r_assign rfl) ?_
    refine F.nil ?_
    refine Nrm.seq ?_
    refine Tri.seq ?_
    refine Tri.seq ?_
    obtain ⟨y162, hE_1, h⟩ := bind_some h
    refine Tri.cut (fun e' C' => e' = [(3, .pointer (some ⟨b3_1, 0, none⟩)), (4, .int .i64 t41_4), (5, .int .i64 t47_1), (6, .bool t47_2), (9, v59_1), (10, .bool t59_2), (13, v71_1), (14, .int .i64 t71_2), (19, .pointer (some ⟨b19_1, 0, none⟩)), (20, .int .i64 t85_4), (22, v93_1), (23, .bool t93_2), (162, .bool y162)] ∧ C' = Sep w noM [R.box b19_1 27 [.int .i64 t85_1, v85_1, v85_2], R.box b3_1 27 [.int .i64 t41_1, v41_1, v41_2], R.sl S41_1 v41_1 (t41_2 : List (Int × Int × Int)), R.sl S41_2 v41_2 (t41_3 : List (Int)), R.sl S59_1 v59_1 (t59_1 : List (Int)), R.sl S71_1 v71_1 (t71_1 : List (Int)), R.sl S85_1 v85_1 (t85_2 : List (Int × Int × Int)), R.sl S85_2 v85_2 (t85_3 : List (Int)), R.sl S93_1 v93_1 (t93_1 : List (Int))]) ?_ (fun hj_1 => ?_)
    · rintro _ _ ⟨rfl, rfl⟩
      refine Nrm.seq ?_
      refine Tri.cond (b := y162) rfl (fun g_2 => ?_) (fun g_2 => ?_)
      · replace h := if_tt g_2 h
        refine Tri.seq ?_
        refine Tri.reg (l := [0]) rfl ?_
        refine F.q rfl rfl rfl (wanted_none rfl) (r_assign rfl) ?_
        refine F.nil ?_
        refine Nrm.seq ?_
        refine Tri.ret ?_
        refine Rtn.then ?_
        cases h
        exact Rtn.body (.tmp rfl .nil) (fun w hw => ⟨rfl, hw.ext⟩)
      · replace h := if_ff g_2 h
        refine Tri.skip ?_
        refine Nrm.seq ?_
        refine Tri.seq ?_
        refine Tri.seq ?_
        refine Tri.reg (l := [0]) rfl ?_
        refine F.q rfl rfl rfl (wanted_none rfl) (r_move rfl) ?_
        refine F.nil ?_
        refine Nrm.seq ?_
        refine Tri.cond (b := t93_2) rfl (fun g_3 => ?_) (fun g_3 => ?_)
        · replace h := if_tt g_3 h
          refine Tri.seq ?_
          obtain ⟨⟨t167_1, t167_2⟩, h167, h⟩ := bind_some h
          refine Tri.reg (l := [0, 1, 2, 3, 4, 5, 6, 7]) rfl ?_
          refine F.q rfl rfl rfl (wanted_none rfl) (r_loadA ta27 ti27 rfl rfl (fun w hw => (box_cells (i := 0) rfl w hw))) ?_
          refine F.q rfl rfl rfl (wanted_none rfl) (r_move rfl) ?_
          refine F.qc rfl rfl rfl (wanted_none rfl) (q_callF (xs := _) rfl ok10 rfl rfl (fun w hw => impl_CountFillings.ok h167 w ((rd_sl (i := 6) rfl) w hw) ((rd_sl (i := 7) rfl) w hw))) ?_
          refine F.q rfl rfl rfl (wanted_none rfl) (r_move rfl) ?_
          refine F.q rfl rfl rfl (wanted_none rfl) (r_extract rfl rfl) ?_
          refine F.q rfl rfl rfl (wanted_none rfl) (r_extract rfl rfl) ?_
          refine F.q rfl rfl rfl (wanted_none rfl) (r_assign rfl) ?_
          refine F.q rfl rfl rfl (wanted_none rfl) (r_assign rfl) ?_
          refine F.nil ?_
          refine Nrm.seq ?_
          refine Tri.seq ?_
          obtain ⟨y177, hE_2, h⟩ := bind_some h
          refine Tri.cut (fun e' C' => e' = [(3, .pointer (some ⟨b3_1, 0, none⟩)), (4, .int .i64 t41_4), (5, .int .i64 t47_1), (6, .bool t47_2), (9, v59_1), (10, .bool t59_2), (13, v71_1), (14, .int .i64 t71_2), (177, .bool y177)] ∧ C' = Sep w noM [R.box b3_1 27 [.int .i64 t41_1, v41_1, v41_2], R.sl S41_1 v41_1 (t41_2 : List (Int × Int × Int)), R.sl S41_2 v41_2 (t41_3 : List (Int)), R.sl S59_1 v59_1 (t59_1 : List (Int)), R.sl S71_1 v71_1 (t71_1 : List (Int))]) ?_ (fun hj_2 => ?_)
          · rintro _ _ ⟨rfl, rfl⟩
            refine Nrm.seq ?_
            refine Tri.cond (b := y177) rfl (fun g_4 => ?_) (fun g_4 => ?_)
            · replace h := if_tt g_4 h
              refine Tri.seq ?_
              refine Tri.reg (l := [0]) rfl ?_
              refine F.q rfl rfl rfl (wanted_none rfl) (r_assign rfl) ?_
              refine F.nil ?_
              refine Nrm.seq ?_
              refine Tri.ret ?_
              refine Rtn.then ?_
              cases h
              exact Rtn.body (.tmp rfl .nil) (fun w hw => ⟨rfl, hw.ext⟩)
            · replace h := if_ff g_4 h
              refine Tri.skip ?_
              refine Nrm.seq ?_
              refine Tri.seq ?_
              refine Tri.seq ?_
              refine Tri.reg (l := [0, 1]) rfl ?_
              refine F.q rfl rfl rfl (wanted_none rfl) (r_move rfl) ?_
              refine F.q rfl rfl rfl (wanted_none rfl) (r_not rfl) ?_
              refine F.nil ?_
              refine Nrm.seq ?_
              refine Tri.cond (b := !t47_2) rfl (fun g_5 => ?_) (fun g_5 => ?_)
              · replace h := if_tt g_5 h
                refine Tri.seq ?_
                refine Tri.reg (l := [0]) rfl ?_
                refine F.q rfl rfl rfl (wanted_none rfl) (r_assign rfl) ?_
                refine F.nil ?_
                refine Nrm.seq ?_
                refine Tri.ret ?_
                refine Rtn.then ?_
                cases h
                exact Rtn.body (.tmp rfl .nil) (fun w hw => ⟨rfl, hw.ext⟩)
              · replace h := if_ff g_5 h
                refine Tri.skip ?_
                refine Nrm.seq ?_
                refine Tri.seq ?_
                obtain ⟨⟨t182_1, t182_2⟩, h182, h⟩ := bind_some h
                refine Tri.reg (l := [0, 1, 2, 3, 4, 5, 6]) rfl ?_
                refine F.q rfl rfl rfl (wanted_none rfl) (r_move rfl) ?_
                refine F.m rfl rfl rfl (wanted_none rfl) (m_callF (xs := _) rfl ok22 rfl rfl (fun w hw => impl_ColoursOf.ok h182 w )) ?_
                rintro _ _ ⟨_, ⟨v182_1, S182_1, rfl, hl_v182_1, rfl⟩, rfl⟩
                refine F.q rfl rfl rfl (wanted_none rfl) (r_move rfl) ?_
                refine F.q rfl rfl rfl (wanted_none rfl) (r_extract rfl rfl) ?_
                refine F.q rfl rfl rfl (wanted_none rfl) (r_extract rfl rfl) ?_
                refine F.q rfl rfl rfl (wanted_none rfl) (r_assign rfl) ?_
                refine F.q rfl rfl rfl (wanted_none rfl) (r_assign rfl) ?_
                refine F.nil ?_
                refine Nrm.seq ?_
                refine Tri.seq ?_
                obtain ⟨hm187, h⟩ := ck h
                refine Tri.reg (l := [0, 1, 2, 3]) rfl ?_
                refine F.q rfl rfl rfl (wanted_none rfl) (r_move rfl) ?_
                refine F.q rfl rfl rfl (wanted_none rfl) (r_len Try.underlying25 rfl hl_v182_1) ?_
                refine F.m rfl rfl rfl (wanted_none rfl) (m_make (x0 := (0 : Int)) Try.underlying25 ti3 rfl rfl rfl hm187.1 hm187.2 (by decide)) ?_
                rintro v187_1 _ ⟨S187_1, hl_v187_1, rfl⟩
                refine F.q rfl rfl rfl (wanted_none rfl) (r_assign rfl) ?_
                refine F.nil ?_
                refine Nrm.seq ?_
                refine Tri.seq ?_
                obtain ⟨⟨t192_1, t192_2⟩, h192, h⟩ := bind_some h
                refine Tri.reg (l := [0, 1, 2, 3, 4, 5, 6, 7, 8]) rfl ?_
                refine F.q rfl rfl rfl (wanted_none rfl) (r_loadA ta27 ti27 rfl rfl (fun w hw => (box_cells (i := 2) rfl w hw))) ?_
                refine F.q rfl rfl rfl (wanted_none rfl) (r_move rfl) ?_
                refine F.q rfl rfl rfl (wanted_none rfl) (r_move rfl) ?_
                refine F.qc rfl rfl rfl (wanted_none rfl) (q_callF (xs := _) rfl ok23 rfl rfl (fun w hw => impl_FillingWins.ok h192 w ((rd_sl (i := 3) rfl) w hw) ((rd_sl (i := 4) rfl) w hw) ((rd_sl (i := 0) rfl) w hw))) ?_
                refine F.q rfl rfl rfl (wanted_none rfl) (r_move rfl) ?_
                refine F.q rfl rfl rfl (wanted_none rfl) (r_extract rfl rfl) ?_
                refine F.q rfl rfl rfl (wanted_none rfl) (r_extract rfl rfl) ?_
                refine F.q rfl rfl rfl (wanted_none rfl) (r_assign rfl) ?_
                refine F.q rfl rfl rfl (wanted_none rfl) (r_assign rfl) ?_
                refine F.nil ?_
                refine Nrm.seq ?_
                refine Tri.seq ?_
                refine Tri.seq ?_
                obtain ⟨y206, hE_3, h⟩ := bind_some h
                refine Tri.cut (fun e' C' => e' = [(3, .pointer (some ⟨b3_1, 0, none⟩)), (4, .int .i64 t41_4), (9, v59_1), (10, .bool t59_2), (13, v71_1), (14, .int .i64 t71_2), (206, .bool y206)] ∧ C' = Sep w noM [R.box b3_1 27 [.int .i64 t41_1, v41_1, v41_2], R.sl S41_1 v41_1 (t41_2 : List (Int × Int × Int)), R.sl S41_2 v41_2 (t41_3 : List (Int)), R.sl S59_1 v59_1 (t59_1 : List (Int)), R.sl S71_1 v71_1 (t71_1 : List (Int))]) ?_ (fun hj_3 => ?_)
                · rintro _ _ ⟨rfl, rfl⟩
                  refine Nrm.seq ?_
                  refine Tri.cond (b := y206) rfl (fun g_6 => ?_) (fun g_6 => ?_)
                  · replace h := if_tt g_6 h
                    refine Tri.seq ?_
                    refine Tri.reg (l := [0]) rfl ?_
                    refine F.q rfl rfl rfl (wanted_none rfl) (r_assign rfl) ?_
                    refine F.nil ?_
                    refine Nrm.seq ?_
                    refine Tri.ret ?_
                    refine Rtn.then ?_
                    cases h
                    exact Rtn.body (.tmp rfl .nil) (fun w hw => ⟨rfl, hw.ext⟩)
                  · replace h := if_ff g_6 h
                    refine Tri.skip ?_
                    refine Nrm.seq ?_
                    refine Tri.seq ?_
                    refine Tri.seq ?_
                    refine Tri.reg (l := [0, 1]) rfl ?_
                    refine F.q rfl rfl rfl (wanted_none rfl) (r_move rfl) ?_
                    refine F.q rfl rfl rfl (wanted_none rfl) (r_not rfl) ?_
                    refine F.nil ?_
                    refine Nrm.seq ?_
                    refine Tri.cond (b := !t59_2) rfl (fun g_7 => ?_) (fun g_7 => ?_)
                    · replace h := if_tt g_7 h
                      refine Tri.seq ?_
                      refine Tri.reg (l := [0]) rfl ?_
                      refine F.q rfl rfl rfl (wanted_none rfl) (r_assign rfl) ?_
                      refine F.nil ?_
                      refine Nrm.seq ?_
                      refine Tri.ret ?_
                      refine Rtn.then ?_
                      cases h
                      exact Rtn.body (.tmp rfl .nil) (fun w hw => ⟨rfl, hw.ext⟩)
                    · replace h := if_ff g_7 h
                      refine Tri.skip ?_
                      refine Nrm.seq ?_
                      refine Tri.seq ?_
                      obtain ⟨⟨t213_1, t213_2⟩, h213, h⟩ := bind_some h
                      refine Tri.reg (l := [0, 1, 2, 3, 4, 5, 6, 7, 8]) rfl ?_
                      refine F.q rfl rfl rfl (wanted_none rfl) (r_loadA ta27 ti27 rfl rfl (fun w hw => (box_cells (i := 0) rfl w hw))) ?_
                      refine F.q rfl rfl rfl (wanted_none rfl) (r_move rfl) ?_
                      refine F.q rfl rfl rfl (wanted_none rfl) (r_move rfl) ?_
                      refine F.qc rfl rfl rfl (wanted_none rfl) (q_callF (xs := _) rfl ok24 rfl rfl (fun w hw => impl_FillingDepth.ok h213 w ((rd_sl (i := 1) rfl) w hw) ((rd_sl (i := 2) rfl) w hw) ((rd_sl (i := 4) rfl) w hw))) ?_
                      refine F.q rfl rfl rfl (wanted_none rfl) (r_move rfl) ?_
                      refine F.q rfl rfl rfl (wanted_none rfl) (r_extract rfl rfl) ?_
                      refine F.q rfl rfl rfl (wanted_none rfl) (r_extract rfl rfl) ?_
                      refine F.q rfl rfl rfl (wanted_none rfl) (r_assign rfl) ?_
                      refine F.q rfl rfl rfl (wanted_none rfl) (r_assign rfl) ?_
                      refine F.nil ?_
                      refine Nrm.seq ?_
                      refine Tri.seq ?_
                      obtain ⟨⟨t220_1, t220_2⟩, h220, h⟩ := bind_some h
                      refine Tri.reg (l := [0, 1, 2, 3, 4, 5, 6, 7, 8]) rfl ?_
                      refine F.q rfl rfl rfl (wanted_none rfl) (r_loadA ta27 ti27 rfl rfl (fun w hw => (box_cells (i := 0) rfl w hw))) ?_
                      refine F.q rfl rfl rfl (wanted_none rfl) (r_move rfl) ?_
                      refine F.q rfl rfl rfl (wanted_none rfl) (r_move rfl) ?_
                      refine F.qc rfl rfl rfl (wanted_none rfl) (q_callF (xs := _) rfl ok24 rfl rfl (fun w hw => impl_FillingDepth.ok h220 w ((rd_sl (i := 1) rfl) w hw) ((rd_sl (i := 2) rfl) w hw) ((rd_sl (i := 3) rfl) w hw))) ?_
                      refine F.q rfl rfl rfl (wanted_none rfl) (r_move rfl) ?_
                      refine F.q rfl rfl rfl (wanted_none rfl) (r_extract rfl rfl) ?_
                      refine F.q rfl rfl rfl (wanted_none rfl) (r_extract rfl rfl) ?_
                      refine F.q rfl rfl rfl (wanted_none rfl) (r_assign rfl) ?_
                      refine F.q rfl rfl rfl (wanted_none rfl) (r_assign rfl) ?_
                      refine F.nil ?_
                      refine Nrm.seq ?_
                      refine Tri.seq ?_
                      obtain ⟨y2, hE_4, h⟩ := bind_some h
                      refine Tri.cut (fun e' C' => e' = [(2, .bool y2)] ∧ C' = Sep w noM []) ?_ (fun hj_4 => ?_)
                      · rintro _ _ ⟨rfl, rfl⟩
                        refine Nrm.seq ?_
                        refine Tri.ret ?_
                        cases h
                        exact Rtn.body (.tmp rfl .nil) (fun w hw => ⟨rfl, hw.ext⟩)
                      · rcases Bool.eq_false_or_eq_true (t213_2) with g224 | g224
                        · replace hE_4 := if_tt g224 hE_4
                          rcases Bool.eq_false_or_eq_true (t220_2) with g227 | g227
                          · replace hE_4 := if_tt g227 hE_4
                            rcases Bool.eq_false_or_eq_true (t213_1 == t71_2) with g232 | g232
                            · replace hE_4 := if_tt g232 hE_4
                              refine Tri.reg (l := [0, 1, 2, 3, 4, 5, 6, 7, 8, 9, 10, 11, 12, 13, 14]) rfl ?_
                              refine F.q rfl rfl rfl (wanted_none rfl) (r_move rfl) ?_
                              refine F.q rfl rfl rfl (wanted_none rfl) (r_move rfl) ?_
                              refine F.q rfl rfl rfl (wg rfl rfl rfl g224) (r_move rfl) ?_
                              refine F.q rfl rfl rfl (wanted_none rfl) (r_pick rfl rfl g224) ?_
                              refine F.q rfl rfl rfl (wanted_none rfl) (r_move rfl) ?_
                              refine F.q rfl rfl rfl (wg rfl rfl rfl g227) (r_move rfl) ?_
                              refine F.q rfl rfl rfl (wg rfl rfl rfl g227) (r_move rfl) ?_
                              refine F.q rfl rfl rfl (wg rfl rfl rfl g227) (r_eql rfl rfl) ?_
                              refine F.q rfl rfl rfl (wanted_none rfl) (r_pick rfl rfl g227) ?_
                              refine F.q rfl rfl rfl (wanted_none rfl) (r_move rfl) ?_
                              refine F.q rfl rfl rfl (wg rfl rfl rfl g232) (r_move rfl) ?_
                              refine F.q rfl rfl rfl (wg rfl rfl rfl g232) (r_move rfl) ?_
                              refine F.q rfl rfl rfl (wg rfl rfl rfl g232) (r_leq rfl rfl) ?_
                              refine F.q rfl rfl rfl (wanted_none rfl) (r_pick rfl rfl g232) ?_
                              refine F.q rfl rfl rfl (wanted_none rfl) (r_assign rfl) ?_
                              refine F.nil ?_
                              cases hE_4
                              refine Nrm.only [2] rfl ?_
                              refine Nrm.pick [] rfl rfl ?_
                              exact hj_4 _ _ ⟨rfl, rfl⟩
                            · replace hE_4 := if_ff g232 hE_4
                              refine Tri.reg (l := [0, 1, 2, 3, 4, 5, 6, 7, 8, 9, 10, 11, 12, 13, 14]) rfl ?_
                              refine F.q rfl rfl rfl (wanted_none rfl) (r_move rfl) ?_
                              refine F.q rfl rfl rfl (wanted_none rfl) (r_move rfl) ?_
                              refine F.q rfl rfl rfl (wg rfl rfl rfl g224) (r_move rfl) ?_
                              refine F.q rfl rfl rfl (wanted_none rfl) (r_pick rfl rfl g224) ?_
                              refine F.q rfl rfl rfl (wanted_none rfl) (r_move rfl) ?_
                              refine F.q rfl rfl rfl (wg rfl rfl rfl g227) (r_move rfl) ?_
                              refine F.q rfl rfl rfl (wg rfl rfl rfl g227) (r_move rfl) ?_
                              refine F.q rfl rfl rfl (wg rfl rfl rfl g227) (r_eql rfl rfl) ?_
                              refine F.q rfl rfl rfl (wanted_none rfl) (r_pick rfl rfl g227) ?_
                              refine F.q rfl rfl rfl (wanted_none rfl) (r_move rfl) ?_
                              refine F.sk rfl rfl rfl (wf rfl rfl rfl g232) ?_
                              refine F.sk rfl rfl rfl (wf rfl rfl rfl g232) ?_
                              refine F.sk rfl rfl rfl (wf rfl rfl rfl g232) ?_
                              refine F.q rfl rfl rfl (wanted_none rfl) (r_pickf rfl rfl g232) ?_
                              refine F.q rfl rfl rfl (wanted_none rfl) (r_assign rfl) ?_
                              refine F.nil ?_
                              cases hE_4
                              refine Nrm.only [2] rfl ?_
                              refine Nrm.pick [] rfl rfl ?_
                              exact hj_4 _ _ ⟨rfl, rfl⟩
                          · replace hE_4 := if_ff g227 hE_4
                            refine Tri.reg (l := [0, 1, 2, 3, 4, 5, 6, 7, 8, 9, 10, 11, 12, 13, 14]) rfl ?_
                            refine F.q rfl rfl rfl (wanted_none rfl) (r_move rfl) ?_
                            refine F.q rfl rfl rfl (wanted_none rfl) (r_move rfl) ?_
                            refine F.q rfl rfl rfl (wg rfl rfl rfl g224) (r_move rfl) ?_
                            refine F.q rfl rfl rfl (wanted_none rfl) (r_pick rfl rfl g224) ?_
                            refine F.q rfl rfl rfl (wanted_none rfl) (r_move rfl) ?_
                            refine F.sk rfl rfl rfl (wf rfl rfl rfl g227) ?_
                            refine F.sk rfl rfl rfl (wf rfl rfl rfl g227) ?_
                            refine F.sk rfl rfl rfl (wf rfl rfl rfl g227) ?_
                            refine F.q rfl rfl rfl (wanted_none rfl) (r_pickf rfl rfl g227) ?_
                            refine F.q rfl rfl rfl (wanted_none rfl) (r_move rfl) ?_
                            refine F.sk rfl rfl rfl (wf rfl rfl rfl rfl) ?_
                            refine F.sk rfl rfl rfl (wf rfl rfl rfl rfl) ?_
                            refine F.sk rfl rfl rfl (wf rfl rfl rfl rfl) ?_
                            refine F.q rfl rfl rfl (wanted_none rfl) (r_pickf rfl rfl rfl) ?_
                            refine F.q rfl rfl rfl (wanted_none rfl) (r_assign rfl) ?_
                            refine F.nil ?_
                            cases hE_4
                            refine Nrm.only [2] rfl ?_
                            refine Nrm.pick [] rfl rfl ?_
                            exact hj_4 _ _ ⟨rfl, rfl⟩
                        · replace hE_4 := if_ff g224 hE_4
                          refine Tri.reg (l := [0, 1, 2, 3, 4, 5, 6, 7, 8, 9, 10, 11, 12, 13, 14]) rfl ?_
                          refine F.q rfl rfl rfl (wanted_none rfl) (r_move rfl) ?_
                          refine F.q rfl rfl rfl (wanted_none rfl) (r_move rfl) ?_
                          refine F.sk rfl rfl rfl (wf rfl rfl rfl g224) ?_
                          refine F.q rfl rfl rfl (wanted_none rfl) (r_pickf rfl rfl g224) ?_
                          refine F.q rfl rfl rfl (wanted_none rfl) (r_move rfl) ?_
                          refine F.sk rfl rfl rfl (wf rfl rfl rfl rfl) ?_
                          refine F.sk rfl rfl rfl (wf rfl rfl rfl rfl) ?_
                          refine F.sk rfl rfl rfl (wf rfl rfl rfl rfl) ?_
                          refine F.q rfl rfl rfl (wanted_none rfl) (r_pickf rfl rfl rfl) ?_
                          refine F.q rfl rfl rfl (wanted_none rfl) (r_move rfl) ?_
                          refine F.sk rfl rfl rfl (wf rfl rfl rfl rfl) ?_
                          refine F.sk rfl rfl rfl (wf rfl rfl rfl rfl) ?_
                          refine F.sk rfl rfl rfl (wf rfl rfl rfl rfl) ?_
                          refine F.q rfl rfl rfl (wanted_none rfl) (r_pickf rfl rfl rfl) ?_
                          refine F.q rfl rfl rfl (wanted_none rfl) (r_assign rfl) ?_
                          refine F.nil ?_
                          cases hE_4
                          refine Nrm.only [2] rfl ?_
                          refine Nrm.pick [] rfl rfl ?_
                          exact hj_4 _ _ ⟨rfl, rfl⟩
                · rcases Bool.eq_false_or_eq_true (!t182_2) with g197 | g197
                  · replace hE_3 := if_tt g197 hE_3
                    refine Tri.reg (l := [0, 1, 2, 3, 4, 5, 6, 7, 8, 9, 10, 11]) rfl ?_
                    refine F.q rfl rfl rfl (wanted_none rfl) (r_move rfl) ?_
                    refine F.q rfl rfl rfl (wanted_none rfl) (r_not rfl) ?_
                    refine F.q rfl rfl rfl (wanted_none rfl) (r_move rfl) ?_
                    refine F.sk rfl rfl rfl (wf rfl rfl rfl g197) ?_
                    refine F.sk rfl rfl rfl (wf rfl rfl rfl g197) ?_
                    refine F.q rfl rfl rfl (wanted_none rfl) (r_pick rfl rfl g197) ?_
                    refine F.q rfl rfl rfl (wanted_none rfl) (r_move rfl) ?_
                    refine F.sk rfl rfl rfl (wf rfl rfl rfl rfl) ?_
                    refine F.sk rfl rfl rfl (wf rfl rfl rfl rfl) ?_
                    refine F.sk rfl rfl rfl (wf rfl rfl rfl rfl) ?_
                    refine F.sk rfl rfl rfl (wf rfl rfl rfl rfl) ?_
                    refine F.q rfl rfl rfl (wanted_none rfl) (r_pick rfl rfl rfl) ?_
                    refine F.nil ?_
                    cases hE_3
                    refine Nrm.only [3, 4, 9, 10, 13, 14, 206] rfl ?_
                    refine Nrm.pick [2, 3, 4, 5, 6] rfl rfl ?_
                    exact hj_3 _ _ ⟨rfl, rfl⟩
                  · replace hE_3 := if_ff g197 hE_3
                    rcases Bool.eq_false_or_eq_true (!t192_2) with g201 | g201
                    · replace hE_3 := if_tt g201 hE_3
                      refine Tri.reg (l := [0, 1, 2, 3, 4, 5, 6, 7, 8, 9, 10, 11]) rfl ?_
                      refine F.q rfl rfl rfl (wanted_none rfl) (r_move rfl) ?_
                      refine F.q rfl rfl rfl (wanted_none rfl) (r_not rfl) ?_
                      refine F.q rfl rfl rfl (wanted_none rfl) (r_move rfl) ?_
                      refine F.q rfl rfl rfl (wg rfl rfl rfl g197) (r_move rfl) ?_
                      refine F.q rfl rfl rfl (wg rfl rfl rfl g197) (r_not rfl) ?_
                      refine F.q rfl rfl rfl (wanted_none rfl) (r_pickf rfl rfl g197) ?_
                      refine F.q rfl rfl rfl (wanted_none rfl) (r_move rfl) ?_
                      refine F.sk rfl rfl rfl (wf rfl rfl rfl g201) ?_
                      refine F.sk rfl rfl rfl (wf rfl rfl rfl g201) ?_
                      refine F.sk rfl rfl rfl (wf rfl rfl rfl g201) ?_
                      refine F.sk rfl rfl rfl (wf rfl rfl rfl g201) ?_
                      refine F.q rfl rfl rfl (wanted_none rfl) (r_pick rfl rfl g201) ?_
                      refine F.nil ?_
                      cases hE_3
                      refine Nrm.only [3, 4, 9, 10, 13, 14, 206] rfl ?_
                      refine Nrm.pick [2, 3, 4, 5, 6] rfl rfl ?_
                      exact hj_3 _ _ ⟨rfl, rfl⟩
                    · replace hE_3 := if_ff g201 hE_3
                      refine Tri.reg (l := [0, 1, 2, 3, 4, 5, 6, 7, 8, 9, 10, 11]) rfl ?_
                      refine F.q rfl rfl rfl (wanted_none rfl) (r_move rfl) ?_
                      refine F.q rfl rfl rfl (wanted_none rfl) (r_not rfl) ?_
                      refine F.q rfl rfl rfl (wanted_none rfl) (r_move rfl) ?_
                      refine F.q rfl rfl rfl (wg rfl rfl rfl g197) (r_move rfl) ?_
                      refine F.q rfl rfl rfl (wg rfl rfl rfl g197) (r_not rfl) ?_
                      refine F.q rfl rfl rfl (wanted_none rfl) (r_pickf rfl rfl g197) ?_
                      refine F.q rfl rfl rfl (wanted_none rfl) (r_move rfl) ?_
                      refine F.q rfl rfl rfl (wg rfl rfl rfl g201) (r_move rfl) ?_
                      refine F.q rfl rfl rfl (wg rfl rfl rfl g201) (r_move rfl) ?_
                      refine F.q rfl rfl rfl (wg rfl rfl rfl g201) (r_gtr rfl rfl) ?_
                      refine F.q rfl rfl rfl (wg rfl rfl rfl g201) (r_neqB Try.underlying4 rfl rfl) ?_
                      refine F.q rfl rfl rfl (wanted_none rfl) (r_pickf rfl rfl g201) ?_
                      refine F.nil ?_
                      cases hE_3
                      refine Nrm.only [3, 4, 9, 10, 13, 14, 206] rfl ?_
                      refine Nrm.pick [2, 3, 4, 5, 6] rfl rfl ?_
                      exact hj_3 _ _ ⟨rfl, rfl⟩
          · rcases Bool.eq_false_or_eq_true (!t167_2) with g172 | g172
            · replace hE_2 := if_tt g172 hE_2
              refine Tri.reg (l := [0, 1, 2, 3, 4, 5, 6, 7]) rfl ?_
              refine F.q rfl rfl rfl (wanted_none rfl) (r_move rfl) ?_
              refine F.q rfl rfl rfl (wanted_none rfl) (r_not rfl) ?_
              refine F.q rfl rfl rfl (wanted_none rfl) (r_move rfl) ?_
              refine F.sk rfl rfl rfl (wf rfl rfl rfl g172) ?_
              refine F.sk rfl rfl rfl (wf rfl rfl rfl g172) ?_
              refine F.sk rfl rfl rfl (wf rfl rfl rfl g172) ?_
              refine F.sk rfl rfl rfl (wf rfl rfl rfl g172) ?_
              refine F.q rfl rfl rfl (wanted_none rfl) (r_pick rfl rfl g172) ?_
              refine F.nil ?_
              cases hE_2
              refine Nrm.only [3, 4, 5, 6, 9, 10, 13, 14, 177] rfl ?_
              refine Nrm.pick [1, 2, 3, 4, 5] rfl rfl ?_
              exact hj_2 _ _ ⟨rfl, rfl⟩
            · replace hE_2 := if_ff g172 hE_2
              obtain ⟨t174, h174, hE_2⟩ := bind_some hE_2
              refine Tri.reg (l := [0, 1, 2, 3, 4, 5, 6, 7]) rfl ?_
              refine F.q rfl rfl rfl (wanted_none rfl) (r_move rfl) ?_
              refine F.q rfl rfl rfl (wanted_none rfl) (r_not rfl) ?_
              refine F.q rfl rfl rfl (wanted_none rfl) (r_move rfl) ?_
              refine F.q rfl rfl rfl (wg rfl rfl rfl g172) (r_move rfl) ?_
              refine F.qc rfl rfl rfl (wg rfl rfl rfl g172) (q_callF (xs := _) rfl ok21 rfl rfl (fun w hw => laws_vAdd.ok h174 w ((rd_sl (i := 8) rfl) w hw))) ?_
              refine F.q rfl rfl rfl (wg rfl rfl rfl g172) (r_move rfl) ?_
              refine F.q rfl rfl rfl (wg rfl rfl rfl g172) (r_neq rfl rfl) ?_
              refine F.q rfl rfl rfl (wanted_none rfl) (r_pickf rfl rfl g172) ?_
              refine F.nil ?_
              cases hE_2
              refine Nrm.only [3, 4, 5, 6, 9, 10, 13, 14, 177] rfl ?_
              refine Nrm.pick [1, 2, 3, 4, 5] rfl rfl ?_
              exact hj_2 _ _ ⟨rfl, rfl⟩
        · replace h := if_ff g_3 h
          refine Tri.skip ?_
          refine Nrm.seq ?_
          refine Tri.seq ?_
          refine Tri.seq ?_
          refine Tri.reg (l := [0, 1]) rfl ?_
          refine F.q rfl rfl rfl (wanted_none rfl) (r_move rfl) ?_
          refine F.q rfl rfl rfl (wanted_none rfl) (r_not rfl) ?_
          refine F.nil ?_
          refine Nrm.seq ?_
          refine Tri.cond (b := !t47_2) rfl (fun g_8 => ?_) (fun g_8 => ?_)
          · replace h := if_tt g_8 h
            refine Tri.seq ?_
            refine Tri.reg (l := [0]) rfl ?_
            refine F.q rfl rfl rfl (wanted_none rfl) (r_assign rfl) ?_
            refine F.nil ?_
            refine Nrm.seq ?_
            refine Tri.ret ?_
            refine Rtn.then ?_
            cases h
            exact Rtn.body (.tmp rfl .nil) (fun w hw => ⟨rfl, hw.ext⟩)
          · replace h := if_ff g_8 h
            refine Tri.skip ?_
            refine Nrm.seq ?_
            refine Tri.seq ?_
            obtain ⟨⟨t182_1, t182_2⟩, h182, h⟩ := bind_some h
            refine Tri.reg (l := [0, 1, 2, 3, 4, 5, 6]) rfl ?_
            refine F.q rfl rfl rfl (wanted_none rfl) (r_move rfl) ?_
            refine F.m rfl rfl rfl (wanted_none rfl) (m_callF (xs := _) rfl ok22 rfl rfl (fun w hw => impl_ColoursOf.ok h182 w )) ?_
            rintro _ _ ⟨_, ⟨v182_2, S182_2, rfl, hl_v182_2, rfl⟩, rfl⟩
            refine F.q rfl rfl rfl (wanted_none rfl) (r_move rfl) ?_
            refine F.q rfl rfl rfl (wanted_none rfl) (r_extract rfl rfl) ?_
            refine F.q rfl rfl rfl (wanted_none rfl) (r_extract rfl rfl) ?_
            refine F.q rfl rfl rfl (wanted_none rfl) (r_assign rfl) ?_
            refine F.q rfl rfl rfl (wanted_none rfl) (r_assign rfl) ?_
            refine F.nil ?_
            refine Nrm.seq ?_
            refine Tri.seq ?_
            obtain ⟨hm187, h⟩ := ck h
            refine Tri.reg (l := [0, 1, 2, 3]) rfl ?_
            refine F.q rfl rfl rfl (wanted_none rfl) (r_move rfl) ?_
            refine F.q rfl rfl rfl (wanted_none rfl) (r_len Try.underlying25 rfl hl_v182_2) ?_
            refine F.m rfl rfl rfl (wanted_none rfl) (m_make (x0 := (0 : Int)) Try.underlying25 ti3 rfl rfl rfl hm187.1 hm187.2 (by decide)) ?_
            rintro v187_2 _ ⟨S187_2, hl_v187_2, rfl⟩
            refine F.q rfl rfl rfl (wanted_none rfl) (r_assign rfl) ?_
            refine F.nil ?_
            refine Nrm.seq ?_
            refine Tri.seq ?_
            obtain ⟨⟨t192_1, t192_2⟩, h192, h⟩ := bind_some h
            refine Tri.reg (l := [0, 1, 2, 3, 4, 5, 6, 7, 8]) rfl ?_
            refine F.q rfl rfl rfl (wanted_none rfl) (r_loadA ta27 ti27 rfl rfl (fun w hw => (box_cells (i := 3) rfl w hw))) ?_
            refine F.q rfl rfl rfl (wanted_none rfl) (r_move rfl) ?_
            refine F.q rfl rfl rfl (wanted_none rfl) (r_move rfl) ?_
            refine F.qc rfl rfl rfl (wanted_none rfl) (q_callF (xs := _) rfl ok23 rfl rfl (fun w hw => impl_FillingWins.ok h192 w ((rd_sl (i := 4) rfl) w hw) ((rd_sl (i := 5) rfl) w hw) ((rd_sl (i := 0) rfl) w hw))) ?_
            refine F.q rfl rfl rfl (wanted_none rfl) (r_move rfl) ?_
            refine F.q rfl rfl rfl (wanted_none rfl) (r_extract rfl rfl) ?_
            refine F.q rfl rfl rfl (wanted_none rfl) (r_extract rfl rfl) ?_
            refine F.q rfl rfl rfl (wanted_none rfl) (r_assign rfl) ?_
            refine F.q rfl rfl rfl (wanted_none rfl) (r_assign rfl) ?_
            refine F.nil ?_
            refine Nrm.seq ?_
            refine Tri.seq ?_
            refine Tri.seq ?_
            obtain ⟨y206r, hE_5, h⟩ := bind_some h
            refine Tri.cut (fun e' C' => e' = [(3, .pointer (some ⟨b3_1, 0, none⟩)), (4, .int .i64 t41_4), (9, v59_1), (10, .bool t59_2), (13, v71_1), (14, .int .i64 t71_2), (206, .bool y206r)] ∧ C' = Sep w noM [R.box b3_1 27 [.int .i64 t41_1, v41_1, v41_2], R.sl S41_1 v41_1 (t41_2 : List (Int × Int × Int)), R.sl S41_2 v41_2 (t41_3 : List (Int)), R.sl S59_1 v59_1 (t59_1 : List (Int)), R.sl S71_1 v71_1 (t71_1 : List (Int))]) ?_ (fun hj_5 => ?_)
            · rintro _ _ ⟨rfl, rfl⟩
              refine Nrm.seq ?_
              refine Tri.cond (b := y206r) rfl (fun g_9 => ?_) (fun g_9 => ?_)
              · replace h := if_tt g_9 h
                refine Tri.seq ?_
                refine Tri.reg (l := [0]) rfl ?_
                refine F.q rfl rfl rfl (wanted_none rfl) (r_assign rfl) ?_
                refine F.nil ?_
                refine Nrm.seq ?_
                refine Tri.ret ?_
                refine Rtn.then ?_
                cases h
                exact Rtn.body (.tmp rfl .nil) (fun w hw => ⟨rfl, hw.ext⟩)
              · replace h := if_ff g_9 h
                refine Tri.skip ?_
                refine Nrm.seq ?_
                refine Tri.seq ?_
                refine Tri.seq ?_
                refine Tri.reg (l := [0, 1]) rfl ?_
                refine F.q rfl rfl rfl (wanted_none rfl) (r_move rfl) ?_
                refine F.q rfl rfl rfl (wanted_none rfl) (r_not rfl) ?_
                refine F.nil ?_
                refine Nrm.seq ?_
                refine Tri.cond (b := !t59_2) rfl (fun g_10 => ?_) (fun g_10 => ?_)
                · replace h := if_tt g_10 h
                  refine Tri.seq ?_
                  refine Tri.reg (l := [0]) rfl ?_
                  refine F.q rfl rfl rfl (wanted_none rfl) (r_assign rfl) ?_
                  refine F.nil ?_
                  refine Nrm.seq ?_
                  refine Tri.ret ?_
                  refine Rtn.then ?_
                  cases h
                  exact Rtn.body (.tmp rfl .nil) (fun w hw => ⟨rfl, hw.ext⟩)
                · replace h := if_ff g_10 h
                  refine Tri.skip ?_
                  refine Nrm.seq ?_
                  refine Tri.seq ?_
                  obtain ⟨⟨t213_1, t213_2⟩, h213, h⟩ := bind_some h
                  refine Tri.reg (l := [0, 1, 2, 3, 4, 5, 6, 7, 8]) rfl ?_
                  refine F.q rfl rfl rfl (wanted_none rfl) (r_loadA ta27 ti27 rfl rfl (fun w hw => (box_cells (i := 0) rfl w hw))) ?_
                  refine F.q rfl rfl rfl (wanted_none rfl) (r_move rfl) ?_
                  refine F.q rfl rfl rfl (wanted_none rfl) (r_move rfl) ?_
                  refine F.qc rfl rfl rfl (wanted_none rfl) (q_callF (xs := _) rfl ok24 rfl rfl (fun w hw => impl_FillingDepth.ok h213 w ((rd_sl (i := 1) rfl) w hw) ((rd_sl (i := 2) rfl) w hw) ((rd_sl (i := 4) rfl) w hw))) ?_
                  refine F.q rfl rfl rfl (wanted_none rfl) (r_move rfl) ?_
                  refine F.q rfl rfl rfl (wanted_none rfl) (r_extract rfl rfl) ?_
                  refine F.q rfl rfl rfl (wanted_none rfl) (r_extract rfl rfl) ?_
                  refine F.q rfl rfl rfl (wanted_none rfl) (r_assign rfl) ?_
                  refine F.q rfl rfl rfl (wanted_none rfl) (r_assign rfl) ?_
                  refine F.nil ?_
                  refine Nrm.seq ?_
                  refine Tri.seq ?_
                  obtain ⟨⟨t220_1, t220_2⟩, h220, h⟩ := bind_some h
                  refine Tri.reg (l := [0, 1, 2, 3, 4, 5, 6, 7, 8]) rfl ?_
                  refine F.q rfl rfl rfl (wanted_none rfl) (r_loadA ta27 ti27 rfl rfl (fun w hw => (box_cells (i := 0) rfl w hw))) ?_
                  refine F.q rfl rfl rfl (wanted_none rfl) (r_move rfl) ?_
                  refine F.q rfl rfl rfl (wanted_none rfl) (r_move rfl) ?_
                  refine F.qc rfl rfl rfl (wanted_none rfl) (q_callF (xs := _) rfl ok24 rfl rfl (fun w hw => impl_FillingDepth.ok h220 w ((rd_sl (i := 1) rfl) w hw) ((rd_sl (i := 2) rfl) w hw) ((rd_sl (i := 3) rfl) w hw))) ?_
                  refine F.q rfl rfl rfl (wanted_none rfl) (r_move rfl) ?_
                  refine F.q rfl rfl rfl (wanted_none rfl) (r_extract rfl rfl) ?_
                  refine F.q rfl rfl rfl (wanted_none rfl) (r_extract rfl rfl) ?_
                  refine F.q rfl rfl rfl (wanted_none rfl) (r_assign rfl) ?_
                  refine F.q rfl rfl rfl (wanted_none rfl) (r_assign rfl) ?_
                  refine F.nil ?_
                  refine Nrm.seq ?_
                  refine Tri.seq ?_
                  obtain ⟨y2r, hE_6, h⟩ := bind_some h
                  refine Tri.cut (fun e' C' => e' = [(2, .bool y2r)] ∧ C' = Sep w noM []) ?_ (fun hj_6 => ?_)
                  · rintro _ _ ⟨rfl, rfl⟩
                    refine Nrm.seq ?_
                    refine Tri.ret ?_
                    cases h
                    exact Rtn.body (.tmp rfl .nil) (fun w hw => ⟨rfl, hw.ext⟩)
                  · rcases Bool.eq_false_or_eq_true (t213_2) with g224 | g224
                    · replace hE_6 := if_tt g224 hE_6
                      rcases Bool.eq_false_or_eq_true (t220_2) with g227 | g227
                      · replace hE_6 := if_tt g227 hE_6
                        rcases Bool.eq_false_or_eq_true (t213_1 == t71_2) with g232 | g232
                        · replace hE_6 := if_tt g232 hE_6
                          refine Tri.reg (l := [0, 1, 2, 3, 4, 5, 6, 7, 8, 9, 10, 11, 12, 13, 14]) rfl ?_
                          refine F.q rfl rfl rfl (wanted_none rfl) (r_move rfl) ?_
                          refine F.q rfl rfl rfl (wanted_none rfl) (r_move rfl) ?_
                          refine F.q rfl rfl rfl (wg rfl rfl rfl g224) (r_move rfl) ?_
                          refine F.q rfl rfl rfl (wanted_none rfl) (r_pick rfl rfl g224) ?_
                          refine F.q rfl rfl rfl (wanted_none rfl) (r_move rfl) ?_
                          refine F.q rfl rfl rfl (wg rfl rfl rfl g227) (r_move rfl) ?_
                          refine F.q rfl rfl rfl (wg rfl rfl rfl g227) (r_move rfl) ?_
                          refine F.q rfl rfl rfl (wg rfl rfl rfl g227) (r_eql rfl rfl) ?_
                          refine F.q rfl rfl rfl (wanted_none rfl) (r_pick rfl rfl g227) ?_
                          refine F.q rfl rfl rfl (wanted_none rfl) (r_move rfl) ?_
                          refine F.q rfl rfl rfl (wg rfl rfl rfl g232) (r_move rfl) ?_
                          refine F.q rfl rfl rfl (wg rfl rfl rfl g232) (r_move rfl) ?_
                          refine F.q rfl rfl rfl (wg rfl rfl rfl g232) (r_leq rfl rfl) ?_
                          refine F.q rfl rfl rfl (wanted_none rfl) (r_pick rfl rfl g232) ?_
                          refine F.q rfl rfl rfl (wanted_none rfl) (r_assign rfl) ?_
                          refine F.nil ?_
                          cases hE_6
                          refine Nrm.only [2] rfl ?_
                          refine Nrm.pick [] rfl rfl ?_
                          exact hj_6 _ _ ⟨rfl, rfl⟩
                        · replace hE_6 := if_ff g232 hE_6
                          refine Tri.reg (l := [0, 1, 2, 3, 4, 5, 6, 7, 8, 9, 10, 11, 12, 13, 14]) rfl ?_
                          refine F.q rfl rfl rfl (wanted_none rfl) (r_move rfl) ?_
                          refine F.q rfl rfl rfl (wanted_none rfl) (r_move rfl) ?_
                          refine F.q rfl rfl rfl (wg rfl rfl rfl g224) (r_move rfl) ?_
                          refine F.q rfl rfl rfl (wanted_none rfl) (r_pick rfl rfl g224) ?_
                          refine F.q rfl rfl rfl (wanted_none rfl) (r_move rfl) ?_
                          refine F.q rfl rfl rfl (wg rfl rfl rfl g227) (r_move rfl) ?_
                          refine F.q rfl rfl rfl (wg rfl rfl rfl g227) (r_move rfl) ?_
                          refine F.q rfl rfl rfl (wg rfl rfl rfl g227) (r_eql rfl rfl) ?_
                          refine F.q rfl rfl rfl (wanted_none rfl) (r_pick rfl rfl g227) ?_
                          refine F.q rfl rfl rfl (wanted_none rfl) (r_move rfl) ?_
                          refine F.sk rfl rfl rfl (wf rfl rfl rfl g232) ?_
                          refine F.sk rfl rfl rfl (wf rfl rfl rfl g232) ?_
                          refine F.sk rfl rfl rfl (wf rfl rfl rfl g232) ?_
                          refine F.q rfl rfl rfl (wanted_none rfl) (r_pickf rfl rfl g232) ?_
                          refine F.q rfl rfl rfl (wanted_none rfl) (r_assign rfl) ?_
                          refine F.nil ?_
                          cases hE_6
                          refine Nrm.only [2] rfl ?_
                          refine Nrm.pick [] rfl rfl ?_
                          exact hj_6 _ _ ⟨rfl, rfl⟩
                      · replace hE_6 := if_ff g227 hE_6
                        refine Tri.reg (l := [0, 1, 2, 3, 4, 5, 6, 7, 8, 9, 10, 11, 12, 13, 14]) rfl ?_
                        refine F.q rfl rfl rfl (wanted_none rfl) (r_move rfl) ?_
                        refine F.q rfl rfl rfl (wanted_none rfl) (r_move rfl) ?_
                        refine F.q rfl rfl rfl (wg rfl rfl rfl g224) (r_move rfl) ?_
                        refine F.q rfl rfl rfl (wanted_none rfl) (r_pick rfl rfl g224) ?_
                        refine F.q rfl rfl rfl (wanted_none rfl) (r_move rfl) ?_
                        refine F.sk rfl rfl rfl (wf rfl rfl rfl g227) ?_
                        refine F.sk rfl rfl rfl (wf rfl rfl rfl g227) ?_
                        refine F.sk rfl rfl rfl (wf rfl rfl rfl g227) ?_
                        refine F.q rfl rfl rfl (wanted_none rfl) (r_pickf rfl rfl g227) ?_
                        refine F.q rfl rfl rfl (wanted_none rfl) (r_move rfl) ?_
                        refine F.sk rfl rfl rfl (wf rfl rfl rfl rfl) ?_
                        refine F.sk rfl rfl rfl (wf rfl rfl rfl rfl) ?_
                        refine F.sk rfl rfl rfl (wf rfl rfl rfl rfl) ?_
                        refine F.q rfl rfl rfl (wanted_none rfl) (r_pickf rfl rfl rfl) ?_
                        refine F.q rfl rfl rfl (wanted_none rfl) (r_assign rfl) ?_
                        refine F.nil ?_
                        cases hE_6
                        refine Nrm.only [2] rfl ?_
                        refine Nrm.pick [] rfl rfl ?_
                        exact hj_6 _ _ ⟨rfl, rfl⟩
                    · replace hE_6 := if_ff g224 hE_6
                      refine Tri.reg (l := [0, 1, 2, 3, 4, 5, 6, 7, 8, 9, 10, 11, 12, 13, 14]) rfl ?_
                      refine F.q rfl rfl rfl (wanted_none rfl) (r_move rfl) ?_
                      refine F.q rfl rfl rfl (wanted_none rfl) (r_move rfl) ?_
                      refine F.sk rfl rfl rfl (wf rfl rfl rfl g224) ?_
                      refine F.q rfl rfl rfl (wanted_none rfl) (r_pickf rfl rfl g224) ?_
                      refine F.q rfl rfl rfl (wanted_none rfl) (r_move rfl) ?_
                      refine F.sk rfl rfl rfl (wf rfl rfl rfl rfl) ?_
                      refine F.sk rfl rfl rfl (wf rfl rfl rfl rfl) ?_
                      refine F.sk rfl rfl rfl (wf rfl rfl rfl rfl) ?_
                      refine F.q rfl rfl rfl (wanted_none rfl) (r_pickf rfl rfl rfl) ?_
                      refine F.q rfl rfl rfl (wanted_none rfl) (r_move rfl) ?_
                      refine F.sk rfl rfl rfl (wf rfl rfl rfl rfl) ?_
                      refine F.sk rfl rfl rfl (wf rfl rfl rfl rfl) ?_
                      refine F.sk rfl rfl rfl (wf rfl rfl rfl rfl) ?_
                      refine F.q rfl rfl rfl (wanted_none rfl) (r_pickf rfl rfl rfl) ?_
                      refine F.q rfl rfl rfl (wanted_none rfl) (r_assign rfl) ?_
                      refine F.nil ?_
                      cases hE_6
                      refine Nrm.only [2] rfl ?_
                      refine Nrm.pick [] rfl rfl ?_
                      exact hj_6 _ _ ⟨rfl, rfl⟩
            · rcases Bool.eq_false_or_eq_true (!t182_2) with g197 | g197
              · replace hE_5 := if_tt g197 hE_5
                refine Tri.reg (l := [0, 1, 2, 3, 4, 5, 6, 7, 8, 9, 10, 11]) rfl ?_
                refine F.q rfl rfl rfl (wanted_none rfl) (r_move rfl) ?_
                refine F.q rfl rfl rfl (wanted_none rfl) (r_not rfl) ?_
                refine F.q rfl rfl rfl (wanted_none rfl) (r_move rfl) ?_
                refine F.sk rfl rfl rfl (wf rfl rfl rfl g197) ?_
                refine F.sk rfl rfl rfl (wf rfl rfl rfl g197) ?_
                refine F.q rfl rfl rfl (wanted_none rfl) (r_pick rfl rfl g197) ?_
                refine F.q rfl rfl rfl (wanted_none rfl) (r_move rfl) ?_
                refine F.sk rfl rfl rfl (wf rfl rfl rfl rfl) ?_
                refine F.sk rfl rfl rfl (wf rfl rfl rfl rfl) ?_
                refine F.sk rfl rfl rfl (wf rfl rfl rfl rfl) ?_
                refine F.sk rfl rfl rfl (wf rfl rfl rfl rfl) ?_
                refine F.q rfl rfl rfl (wanted_none rfl) (r_pick rfl rfl rfl) ?_
                refine F.nil ?_
                cases hE_5
                refine Nrm.only [3, 4, 9, 10, 13, 14, 206] rfl ?_
                refine Nrm.pick [3, 4, 5, 6, 7] rfl rfl ?_
                exact hj_5 _ _ ⟨rfl, rfl⟩
              · replace hE_5 := if_ff g197 hE_5
                rcases Bool.eq_false_or_eq_true (!t192_2) with g201 | g201
                · replace hE_5 := if_tt g201 hE_5
                  refine Tri.reg (l := [0, 1, 2, 3, 4, 5, 6, 7, 8, 9, 10, 11]) rfl ?_
                  refine F.q rfl rfl rfl (wanted_none rfl) (r_move rfl) ?_
                  refine F.q rfl rfl rfl (wanted_none rfl) (r_not rfl) ?_
                  refine F.q rfl rfl rfl (wanted_none rfl) (r_move rfl) ?_
                  refine F.q rfl rfl rfl (wg rfl rfl rfl g197) (r_move rfl) ?_
                  refine F.q rfl rfl rfl (wg rfl rfl rfl g197) (r_not rfl) ?_
                  refine F.q rfl rfl rfl (wanted_none rfl) (r_pickf rfl rfl g197) ?_
                  refine F.q rfl rfl rfl (wanted_none rfl) (r_move rfl) ?_
                  refine F.sk rfl rfl rfl (wf rfl rfl rfl g201) ?_
                  refine F.sk rfl rfl rfl (wf rfl rfl rfl g201) ?_
                  refine F.sk rfl rfl rfl (wf rfl rfl rfl g201) ?_
                  refine F.sk rfl rfl rfl (wf rfl rfl rfl g201) ?_
                  refine F.q rfl rfl rfl (wanted_none rfl) (r_pick rfl rfl g201) ?_
                  refine F.nil ?_
                  cases hE_5
                  refine Nrm.only [3, 4, 9, 10, 13, 14, 206] rfl ?_
                  refine Nrm.pick [3, 4, 5, 6, 7] rfl rfl ?_
                  exact hj_5 _ _ ⟨rfl, rfl⟩
                · replace hE_5 := if_ff g201 hE_5
                  refine Tri.reg (l := [0, 1, 2, 3, 4, 5, 6, 7, 8, 9, 10, 11]) rfl ?_
                  refine F.q rfl rfl rfl (wanted_none rfl) (r_move rfl) ?_
                  refine F.q rfl rfl rfl (wanted_none rfl) (r_not rfl) ?_
                  refine F.q rfl rfl rfl (wanted_none rfl) (r_move rfl) ?_
                  refine F.q rfl rfl rfl (wg rfl rfl rfl g197) (r_move rfl) ?_
                  refine F.q rfl rfl rfl (wg rfl rfl rfl g197) (r_not rfl) ?_
                  refine F.q rfl rfl rfl (wanted_none rfl) (r_pickf rfl rfl g197) ?_
                  refine F.q rfl rfl rfl (wanted_none rfl) (r_move rfl) ?_
                  refine F.q rfl rfl rfl (wg rfl rfl rfl g201) (r_move rfl) ?_
                  refine F.q rfl rfl rfl (wg rfl rfl rfl g201) (r_move rfl) ?_
                  refine F.q rfl rfl rfl (wg rfl rfl rfl g201) (r_gtr rfl rfl) ?_
                  refine F.q rfl rfl rfl (wg rfl rfl rfl g201) (r_neqB Try.underlying4 rfl rfl) ?_
                  refine F.q rfl rfl rfl (wanted_none rfl) (r_pickf rfl rfl g201) ?_
                  refine F.nil ?_
                  cases hE_5
                  refine Nrm.only [3, 4, 9, 10, 13, 14, 206] rfl ?_
                  refine Nrm.pick [3, 4, 5, 6, 7] rfl rfl ?_
                  exact hj_5 _ _ ⟨rfl, rfl⟩
    · rcases Bool.eq_false_or_eq_true (t47_1 != t53_1) with g106 | g106
      · replace hE_1 := if_tt g106 hE_1
        refine Tri.reg (l := [0, 1, 2, 3, 4, 5, 6, 7, 8, 9, 10, 11, 12, 13, 14, 15, 16, 17, 18, 19, 20, 21, 22, 23, 24, 25, 26, 27, 28, 29, 30, 31, 32, 33, 34, 35, 36, 37, 38, 39, 40, 41, 42, 43, 44, 45, 46, 47, 48, 49, 50, 51, 52, 53, 54, 55, 56, 57, 58, 59]) rfl ?_
        refine F.q rfl rfl rfl (wanted_none rfl) (r_move rfl) ?_
        refine F.q rfl rfl rfl (wanted_none rfl) (r_move rfl) ?_
        refine F.q rfl rfl rfl (wanted_none rfl) (r_neq rfl rfl) ?_
        refine F.q rfl rfl rfl (wanted_none rfl) (r_move rfl) ?_
        refine F.sk rfl rfl rfl (wf rfl rfl rfl g106) ?_
        refine F.sk rfl rfl rfl (wf rfl rfl rfl g106) ?_
        refine F.sk rfl rfl rfl (wf rfl rfl rfl g106) ?_
        refine F.q rfl rfl rfl (wanted_none rfl) (r_pick rfl rfl g106) ?_
        refine F.q rfl rfl rfl (wanted_none rfl) (r_move rfl) ?_
        refine F.sk rfl rfl rfl (wf rfl rfl rfl rfl) ?_
        refine F.sk rfl rfl rfl (wf rfl rfl rfl rfl) ?_
        refine F.sk rfl rfl rfl (wf rfl rfl rfl rfl) ?_
        refine F.q rfl rfl rfl (wanted_none rfl) (r_pick rfl rfl rfl) ?_
        refine F.q rfl rfl rfl (wanted_none rfl) (r_move rfl) ?_
        refine F.sk rfl rfl rfl (wf rfl rfl rfl rfl) ?_
        refine F.sk rfl rfl rfl (wf rfl rfl rfl rfl) ?_
        refine F.sk rfl rfl rfl (wf rfl rfl rfl rfl) ?_
        refine F.sk rfl rfl rfl (wf rfl rfl rfl rfl) ?_
        refine F.q rfl rfl rfl (wanted_none rfl) (r_pick rfl rfl rfl) ?_
        refine F.q rfl rfl rfl (wanted_none rfl) (r_move rfl) ?_
        refine F.sk rfl rfl rfl (wf rfl rfl rfl rfl) ?_
        refine F.sk rfl rfl rfl (wf rfl rfl rfl rfl) ?_
        refine F.sk rfl rfl rfl (wf rfl rfl rfl rfl) ?_
        refine F.q rfl rfl rfl (wanted_none rfl) (r_pick rfl rfl rfl) ?_
        refine F.q rfl rfl rfl (wanted_none rfl) (r_move rfl) ?_
        refine F.sk rfl rfl rfl (wf rfl rfl rfl rfl) ?_
        refine F.sk rfl rfl rfl (wf rfl rfl rfl rfl) ?_
        refine F.sk rfl rfl rfl (wf rfl rfl rfl rfl) ?_
        refine F.q rfl rfl rfl (wanted_none rfl) (r_pick rfl rfl rfl) ?_
        refine F.q rfl rfl rfl (wanted_none rfl) (r_move rfl) ?_
        refine F.sk rfl rfl rfl (wf rfl rfl rfl rfl) ?_
        refine F.sk rfl rfl rfl (wf rfl rfl rfl rfl) ?_
        refine F.sk rfl rfl rfl (wf rfl rfl rfl rfl) ?_
        refine F.sk rfl rfl rfl (wf rfl rfl rfl rfl) ?_
        refine F.q rfl rfl rfl (wanted_none rfl) (r_pick rfl rfl rfl) ?_
        refine F.q rfl rfl rfl (wanted_none rfl) (r_move rfl) ?_
        refine F.sk rfl rfl rfl (wf rfl rfl rfl rfl) ?_
        refine F.sk rfl rfl rfl (wf rfl rfl rfl rfl) ?_
        refine F.sk rfl rfl rfl (wf rfl rfl rfl rfl) ?_
        refine F.q rfl rfl rfl (wanted_none rfl) (r_pick rfl rfl rfl) ?_
        refine F.q rfl rfl rfl (wanted_none rfl) (r_move rfl) ?_
        refine F.sk rfl rfl rfl (wf rfl rfl rfl rfl) ?_
        refine F.sk rfl rfl rfl (wf rfl rfl rfl rfl) ?_
        refine F.sk rfl rfl rfl (wf rfl rfl rfl rfl) ?_
        refine F.sk rfl rfl rfl (wf rfl rfl rfl rfl) ?_
        refine F.q rfl rfl rfl (wanted_none rfl) (r_pick rfl rfl rfl) ?_
        refine F.q rfl rfl rfl (wanted_none rfl) (r_move rfl) ?_
        refine F.sk rfl rfl rfl (wf rfl rfl rfl rfl) ?_
        refine F.sk rfl rfl rfl (wf rfl rfl rfl rfl) ?_
        refine F.sk rfl rfl rfl (wf rfl rfl rfl rfl) ?_
        refine F.q rfl rfl rfl (wanted_none rfl) (r_pick rfl rfl rfl) ?_
        refine F.q rfl rfl rfl (wanted_none rfl) (r_move rfl) ?_
        refine F.sk rfl rfl rfl (wf rfl rfl rfl rfl) ?_
        refine F.sk rfl rfl rfl (wf rfl rfl rfl rfl) ?_
        refine F.sk rfl rfl rfl (wf rfl rfl rfl rfl) ?_
        refine F.sk rfl rfl rfl (wanted_undef rfl rfl rfl) ?_
        refine F.sk rfl rfl rfl (wanted_undef rfl rfl rfl) ?_
        refine F.sk rfl rfl rfl (wf rfl rfl rfl rfl) ?_
        refine F.sk rfl rfl rfl (wf rfl rfl rfl rfl) ?_
        refine F.q rfl rfl rfl (wanted_none rfl) (r_pick rfl rfl rfl) ?_
        refine F.nil ?_
        cases hE_1
        refine Nrm.only [3, 4, 5, 6, 9, 10, 13, 14, 19, 20, 22, 23, 162] rfl ?_
        refine Nrm.pick [2, 10, 11, 12, 9, 7, 3, 4, 1] rfl rfl ?_
        exact hj_1 _ _ ⟨rfl, rfl⟩
      · replace hE_1 := if_ff g106 hE_1
        rcases Bool.eq_false_or_eq_true (t47_2 != t53_2) with g111 | g111
        · replace hE_1 := if_tt g111 hE_1
          refine Tri.reg (l := [0, 1, 2, 3, 4, 5, 6, 7, 8, 9, 10, 11, 12, 13, 14, 15, 16, 17, 18, 19, 20, 21, 22, 23, 24, 25, 26, 27, 28, 29, 30, 31, 32, 33, 34, 35, 36, 37, 38, 39, 40, 41, 42, 43, 44, 45, 46, 47, 48, 49, 50, 51, 52, 53, 54, 55, 56, 57, 58, 59]) rfl ?_
          refine F.q rfl rfl rfl (wanted_none rfl) (r_move rfl) ?_
          refine F.q rfl rfl rfl (wanted_none rfl) (r_move rfl) ?_
          refine F.q rfl rfl rfl (wanted_none rfl) (r_neq rfl rfl) ?_
          refine F.q rfl rfl rfl (wanted_none rfl) (r_move rfl) ?_
          refine F.q rfl rfl rfl (wg rfl rfl rfl g106) (r_move rfl) ?_
          refine F.q rfl rfl rfl (wg rfl rfl rfl g106) (r_move rfl) ?_
          refine F.q rfl rfl rfl (wg rfl rfl rfl g106) (r_neqB Try.underlying4 rfl rfl) ?_
          refine F.q rfl rfl rfl (wanted_none rfl) (r_pickf rfl rfl g106) ?_
          refine F.q rfl rfl rfl (wanted_none rfl) (r_move rfl) ?_
          refine F.sk rfl rfl rfl (wf rfl rfl rfl g111) ?_
          refine F.sk rfl rfl rfl (wf rfl rfl rfl g111) ?_
          refine F.sk rfl rfl rfl (wf rfl rfl rfl g111) ?_
          refine F.q rfl rfl rfl (wanted_none rfl) (r_pick rfl rfl g111) ?_
          refine F.q rfl rfl rfl (wanted_none rfl) (r_move rfl) ?_
          refine F.sk rfl rfl rfl (wf rfl rfl rfl rfl) ?_
          refine F.sk rfl rfl rfl (wf rfl rfl rfl rfl) ?_
          refine F.sk rfl rfl rfl (wf rfl rfl rfl rfl) ?_
          refine F.sk rfl rfl rfl (wf rfl rfl rfl rfl) ?_
          refine F.q rfl rfl rfl (wanted_none rfl) (r_pick rfl rfl rfl) ?_
          refine F.q rfl rfl rfl (wanted_none rfl) (r_move rfl) ?_
          refine F.sk rfl rfl rfl (wf rfl rfl rfl rfl) ?_
          refine F.sk rfl rfl rfl (wf rfl rfl rfl rfl) ?_
          refine F.sk rfl rfl rfl (wf rfl rfl rfl rfl) ?_
          refine F.q rfl rfl rfl (wanted_none rfl) (r_pick rfl rfl rfl) ?_
          refine F.q rfl rfl rfl (wanted_none rfl) (r_move rfl) ?_
          refine F.sk rfl rfl rfl (wf rfl rfl rfl rfl) ?_
          refine F.sk rfl rfl rfl (wf rfl rfl rfl rfl) ?_
          refine F.sk rfl rfl rfl (wf rfl rfl rfl rfl) ?_
          refine F.q rfl rfl rfl (wanted_none rfl) (r_pick rfl rfl rfl) ?_
          refine F.q rfl rfl rfl (wanted_none rfl) (r_move rfl) ?_
          refine F.sk rfl rfl rfl (wf rfl rfl rfl rfl) ?_
          refine F.sk rfl rfl rfl (wf rfl rfl rfl rfl) ?_
          refine F.sk rfl rfl rfl (wf rfl rfl rfl rfl) ?_
          refine F.sk rfl rfl rfl (wf rfl rfl rfl rfl) ?_
          refine F.q rfl rfl rfl (wanted_none rfl) (r_pick rfl rfl rfl) ?_
          refine F.q rfl rfl rfl (wanted_none rfl) (r_move rfl) ?_
          refine F.sk rfl rfl rfl (wf rfl rfl rfl rfl) ?_
          refine F.sk rfl rfl rfl (wf rfl rfl rfl rfl) ?_
          refine F.sk rfl rfl rfl (wf rfl rfl rfl rfl) ?_
          refine F.q rfl rfl rfl (wanted_none rfl) (r_pick rfl rfl rfl) ?_
          refine F.q rfl rfl rfl (wanted_none rfl) (r_move rfl) ?_
          refine F.sk rfl rfl rfl (wf rfl rfl rfl rfl) ?_
          refine F.sk rfl rfl rfl (wf rfl rfl rfl rfl) ?_
          refine F.sk rfl rfl rfl (wf rfl rfl rfl rfl) ?_
          refine F.sk rfl rfl rfl (wf rfl rfl rfl rfl) ?_
          refine F.q rfl rfl rfl (wanted_none rfl) (r_pick rfl rfl rfl) ?_
          refine F.q rfl rfl rfl (wanted_none rfl) (r_move rfl) ?_
          refine F.sk rfl rfl rfl (wf rfl rfl rfl rfl) ?_
          refine F.sk rfl rfl rfl (wf rfl rfl rfl rfl) ?_
          refine F.sk rfl rfl rfl (wf rfl rfl rfl rfl) ?_
          refine F.q rfl rfl rfl (wanted_none rfl) (r_pick rfl rfl rfl) ?_
          refine F.q rfl rfl rfl (wanted_none rfl) (r_move rfl) ?_
          refine F.sk rfl rfl rfl (wf rfl rfl rfl rfl) ?_
          refine F.sk rfl rfl rfl (wf rfl rfl rfl rfl) ?_
          refine F.sk rfl rfl rfl (wf rfl rfl rfl rfl) ?_
          refine F.sk rfl rfl rfl (wanted_undef rfl rfl rfl) ?_
          refine F.sk rfl rfl rfl (wanted_undef rfl rfl rfl) ?_
          refine F.sk rfl rfl rfl (wf rfl rfl rfl rfl) ?_
          refine F.sk rfl rfl rfl (wf rfl rfl rfl rfl) ?_
          refine F.q rfl rfl rfl (wanted_none rfl) (r_pick rfl rfl rfl) ?_
          refine F.nil ?_
          cases hE_1
          refine Nrm.only [3, 4, 5, 6, 9, 10, 13, 14, 19, 20, 22, 23, 162] rfl ?_
          refine Nrm.pick [2, 10, 11, 12, 9, 7, 3, 4, 1] rfl rfl ?_
          exact hj_1 _ _ ⟨rfl, rfl⟩
        · replace hE_1 := if_ff g111 hE_1
          rcases Bool.eq_false_or_eq_true (t59_2 != t65_2) with g116 | g116
          · replace hE_1 := if_tt g116 hE_1
            refine Tri.reg (l := [0, 1, 2, 3, 4, 5, 6, 7, 8, 9, 10, 11, 12, 13, 14, 15, 16, 17, 18, 19, 20, 21, 22, 23, 24, 25, 26, 27, 28, 29, 30, 31, 32, 33, 34, 35, 36, 37, 38, 39, 40, 41, 42, 43, 44, 45, 46, 47, 48, 49, 50, 51, 52, 53, 54, 55, 56, 57, 58, 59]) rfl ?_
            refine F.q rfl rfl rfl (wanted_none rfl) (r_move rfl) ?_
            refine F.q rfl rfl rfl (wanted_none rfl) (r_move rfl) ?_
            refine F.q rfl rfl rfl (wanted_none rfl) (r_neq rfl rfl) ?_
            refine F.q rfl rfl rfl (wanted_none rfl) (r_move rfl) ?_
            refine F.q rfl rfl rfl (wg rfl rfl rfl g106) (r_move rfl) ?_
            refine F.q rfl rfl rfl (wg rfl rfl rfl g106) (r_move rfl) ?_
            refine F.q rfl rfl rfl (wg rfl rfl rfl g106) (r_neqB Try.underlying4 rfl rfl) ?_
            refine F.q rfl rfl rfl (wanted_none rfl) (r_pickf rfl rfl g106) ?_
            refine F.q rfl rfl rfl (wanted_none rfl) (r_move rfl) ?_
            refine F.q rfl rfl rfl (wg rfl rfl rfl g111) (r_move rfl) ?_
            refine F.q rfl rfl rfl (wg rfl rfl rfl g111) (r_move rfl) ?_
            refine F.q rfl rfl rfl (wg rfl rfl rfl g111) (r_neqB Try.underlying4 rfl rfl) ?_
            refine F.q rfl rfl rfl (wanted_none rfl) (r_pickf rfl rfl g111) ?_
            refine F.q rfl rfl rfl (wanted_none rfl) (r_move rfl) ?_
            refine F.sk rfl rfl rfl (wf rfl rfl rfl g116) ?_
            refine F.sk rfl rfl rfl (wf rfl rfl rfl g116) ?_
            refine F.sk rfl rfl rfl (wf rfl rfl rfl g116) ?_
            refine F.sk rfl rfl rfl (wf rfl rfl rfl g116) ?_
            refine F.q rfl rfl rfl (wanted_none rfl) (r_pick rfl rfl g116) ?_
            refine F.q rfl rfl rfl (wanted_none rfl) (r_move rfl) ?_
            refine F.sk rfl rfl rfl (wf rfl rfl rfl rfl) ?_
            refine F.sk rfl rfl rfl (wf rfl rfl rfl rfl) ?_
            refine F.sk rfl rfl rfl (wf rfl rfl rfl rfl) ?_
            refine F.q rfl rfl rfl (wanted_none rfl) (r_pick rfl rfl rfl) ?_
            refine F.q rfl rfl rfl (wanted_none rfl) (r_move rfl) ?_
            refine F.sk rfl rfl rfl (wf rfl rfl rfl rfl) ?_
            refine F.sk rfl rfl rfl (wf rfl rfl rfl rfl) ?_
            refine F.sk rfl rfl rfl (wf rfl rfl rfl rfl) ?_
            refine F.q rfl rfl rfl (wanted_none rfl) (r_pick rfl rfl rfl) ?_
            refine F.q rfl rfl rfl (wanted_none rfl) (r_move rfl) ?_
            refine F.sk rfl rfl rfl (wf rfl rfl rfl rfl) ?_
            refine F.sk rfl rfl rfl (wf rfl rfl rfl rfl) ?_
            refine F.sk rfl rfl rfl (wf rfl rfl rfl rfl) ?_
            refine F.sk rfl rfl rfl (wf rfl rfl rfl rfl) ?_
            refine F.q rfl rfl rfl (wanted_none rfl) (r_pick rfl rfl rfl) ?_
            refine F.q rfl rfl rfl (wanted_none rfl) (r_move rfl) ?_
            refine F.sk rfl rfl rfl (wf rfl rfl rfl rfl) ?_
            refine F.sk rfl rfl rfl (wf rfl rfl rfl rfl) ?_
            refine F.sk rfl rfl rfl (wf rfl rfl rfl rfl) ?_
            refine F.q rfl rfl rfl (wanted_none rfl) (r_pick rfl rfl rfl) ?_
            refine F.q rfl rfl rfl (wanted_none rfl) (r_move rfl) ?_
            refine F.sk rfl rfl rfl (wf rfl rfl rfl rfl) ?_
            refine F.sk rfl rfl rfl (wf rfl rfl rfl rfl) ?_
            refine F.sk rfl rfl rfl (wf rfl rfl rfl rfl) ?_
            refine F.sk rfl rfl rfl (wf rfl rfl rfl rfl) ?_
            refine F.q rfl rfl rfl (wanted_none rfl) (r_pick rfl rfl rfl) ?_
            refine F.q rfl rfl rfl (wanted_none rfl) (r_move rfl) ?_
            refine F.sk rfl rfl rfl (wf rfl rfl rfl rfl) ?_
            refine F.sk rfl rfl rfl (wf rfl rfl rfl rfl) ?_
            refine F.sk rfl rfl rfl (wf rfl rfl rfl rfl) ?_
            refine F.q rfl rfl rfl (wanted_none rfl) (r_pick rfl rfl rfl) ?_
            refine F.q rfl rfl rfl (wanted_none rfl) (r_move rfl) ?_
            refine F.sk rfl rfl rfl (wf rfl rfl rfl rfl) ?_
            refine F.sk rfl rfl rfl (wf rfl rfl rfl rfl) ?_
            refine F.sk rfl rfl rfl (wf rfl rfl rfl rfl) ?_
            refine F.sk rfl rfl rfl (wanted_undef rfl rfl rfl) ?_
            refine F.sk rfl rfl rfl (wanted_undef rfl rfl rfl) ?_
            refine F.sk rfl rfl rfl (wf rfl rfl rfl rfl) ?_
            refine F.sk rfl rfl rfl (wf rfl rfl rfl rfl) ?_
            refine F.q rfl rfl rfl (wanted_none rfl) (r_pick rfl rfl rfl) ?_
            refine F.nil ?_
            cases hE_1
            refine Nrm.only [3, 4, 5, 6, 9, 10, 13, 14, 19, 20, 22, 23, 162] rfl ?_
            refine Nrm.pick [2, 10, 11, 12, 9, 7, 3, 4, 1] rfl rfl ?_
            exact hj_1 _ _ ⟨rfl, rfl⟩
          · replace hE_1 := if_ff g116 hE_1
            obtain ⟨t119, h119, hE_1⟩ := bind_some hE_1
            rcases Bool.eq_false_or_eq_true (!t119) with g122 | g122
            · replace hE_1 := if_tt g122 hE_1
              refine Tri.reg (l := [0, 1, 2, 3, 4, 5, 6, 7, 8, 9, 10, 11, 12, 13, 14, 15, 16, 17, 18, 19, 20, 21, 22, 23, 24, 25, 26, 27, 28, 29, 30, 31, 32, 33, 34, 35, 36, 37, 38, 39, 40, 41, 42, 43, 44, 45, 46, 47, 48, 49, 50, 51, 52, 53, 54, 55, 56, 57, 58, 59]) rfl ?_
              refine F.q rfl rfl rfl (wanted_none rfl) (r_move rfl) ?_
              refine F.q rfl rfl rfl (wanted_none rfl) (r_move rfl) ?_
              refine F.q rfl rfl rfl (wanted_none rfl) (r_neq rfl rfl) ?_
              refine F.q rfl rfl rfl (wanted_none rfl) (r_move rfl) ?_
              refine F.q rfl rfl rfl (wg rfl rfl rfl g106) (r_move rfl) ?_
              refine F.q rfl rfl rfl (wg rfl rfl rfl g106) (r_move rfl) ?_
              refine F.q rfl rfl rfl (wg rfl rfl rfl g106) (r_neqB Try.underlying4 rfl rfl) ?_
              refine F.q rfl rfl rfl (wanted_none rfl) (r_pickf rfl rfl g106) ?_
              refine F.q rfl rfl rfl (wanted_none rfl) (r_move rfl) ?_
              refine F.q rfl rfl rfl (wg rfl rfl rfl g111) (r_move rfl) ?_
              refine F.q rfl rfl rfl (wg rfl rfl rfl g111) (r_move rfl) ?_
              refine F.q rfl rfl rfl (wg rfl rfl rfl g111) (r_neqB Try.underlying4 rfl rfl) ?_
              refine F.q rfl rfl rfl (wanted_none rfl) (r_pickf rfl rfl g111) ?_
              refine F.q rfl rfl rfl (wanted_none rfl) (r_move rfl) ?_
              refine F.q rfl rfl rfl (wg rfl rfl rfl g116) (r_move rfl) ?_
              refine F.q rfl rfl rfl (wg rfl rfl rfl g116) (r_move rfl) ?_
              refine F.qc rfl rfl rfl (wg rfl rfl rfl g116) (q_callF (xs := _) rfl ok20 rfl rfl (fun w hw => laws_vInts.ok h119 w ((rd_sl (i := 9) rfl) w hw) ((rd_sl (i := 8) rfl) w hw))) ?_
              refine F.q rfl rfl rfl (wg rfl rfl rfl g116) (r_not rfl) ?_
              refine F.q rfl rfl rfl (wanted_none rfl) (r_pickf rfl rfl g116) ?_
              refine F.q rfl rfl rfl (wanted_none rfl) (r_move rfl) ?_
              refine F.sk rfl rfl rfl (wf rfl rfl rfl g122) ?_
              refine F.sk rfl rfl rfl (wf rfl rfl rfl g122) ?_
              refine F.sk rfl rfl rfl (wf rfl rfl rfl g122) ?_
              refine F.q rfl rfl rfl (wanted_none rfl) (r_pick rfl rfl g122) ?_
              refine F.q rfl rfl rfl (wanted_none rfl) (r_move rfl) ?_
              refine F.sk rfl rfl rfl (wf rfl rfl rfl rfl) ?_
              refine F.sk rfl rfl rfl (wf rfl rfl rfl rfl) ?_
              refine F.sk rfl rfl rfl (wf rfl rfl rfl rfl) ?_
              refine F.q rfl rfl rfl (wanted_none rfl) (r_pick rfl rfl rfl) ?_
              refine F.q rfl rfl rfl (wanted_none rfl) (r_move rfl) ?_
              refine F.sk rfl rfl rfl (wf rfl rfl rfl rfl) ?_
              refine F.sk rfl rfl rfl (wf rfl rfl rfl rfl) ?_
              refine F.sk rfl rfl rfl (wf rfl rfl rfl rfl) ?_
              refine F.sk rfl rfl rfl (wf rfl rfl rfl rfl) ?_
              refine F.q rfl rfl rfl (wanted_none rfl) (r_pick rfl rfl rfl) ?_
              refine F.q rfl rfl rfl (wanted_none rfl) (r_move rfl) ?_
              refine F.sk rfl rfl rfl (wf rfl rfl rfl rfl) ?_
              refine F.sk rfl rfl rfl (wf rfl rfl rfl rfl) ?_
              refine F.sk rfl rfl rfl (wf rfl rfl rfl rfl) ?_
              refine F.q rfl rfl rfl (wanted_none rfl) (r_pick rfl rfl rfl) ?_
              refine F.q rfl rfl rfl (wanted_none rfl) (r_move rfl) ?_
              refine F.sk rfl rfl rfl (wf rfl rfl rfl rfl) ?_
              refine F.sk rfl rfl rfl (wf rfl rfl rfl rfl) ?_
              refine F.sk rfl rfl rfl (wf rfl rfl rfl rfl) ?_
              refine F.sk rfl rfl rfl (wf rfl rfl rfl rfl) ?_
              refine F.q rfl rfl rfl (wanted_none rfl) (r_pick rfl rfl rfl) ?_
              refine F.q rfl rfl rfl (wanted_none rfl) (r_move rfl) ?_
              refine F.sk rfl rfl rfl (wf rfl rfl rfl rfl) ?_
              refine F.sk rfl rfl rfl (wf rfl rfl rfl rfl) ?_
              refine F.sk rfl rfl rfl (wf rfl rfl rfl rfl) ?_
              refine F.q rfl rfl rfl (wanted_none rfl) (r_pick rfl rfl rfl) ?_
              refine F.q rfl rfl rfl (wanted_none rfl) (r_move rfl) ?_
              refine F.sk rfl rfl rfl (wf rfl rfl rfl rfl) ?_
              refine F.sk rfl rfl rfl (wf rfl rfl rfl rfl) ?_
              refine F.sk rfl rfl rfl (wf rfl rfl rfl rfl) ?_
              refine F.sk rfl rfl rfl (wanted_undef rfl rfl rfl) ?_
              refine F.sk rfl rfl rfl (wanted_undef rfl rfl rfl) ?_
              refine F.sk rfl rfl rfl (wf rfl rfl rfl rfl) ?_
              refine F.sk rfl rfl rfl (wf rfl rfl rfl rfl) ?_
              refine F.q rfl rfl rfl (wanted_none rfl) (r_pick rfl rfl rfl) ?_
              refine F.nil ?_
              cases hE_1
              refine Nrm.only [3, 4, 5, 6, 9, 10, 13, 14, 19, 20, 22, 23, 162] rfl ?_
              refine Nrm.pick [2, 10, 11, 12, 9, 7, 3, 4, 1] rfl rfl ?_
              exact hj_1 _ _ ⟨rfl, rfl⟩
            · replace hE_1 := if_ff g122 hE_1
              rcases Bool.eq_false_or_eq_true (t71_2 != t78_2) with g127 | g127
              · replace hE_1 := if_tt g127 hE_1
                refine Tri.reg (l := [0, 1, 2, 3, 4, 5, 6, 7, 8, 9, 10, 11, 12, 13, 14, 15, 16, 17, 18, 19, 20, 21, 22, 23, 24, 25, 26, 27, 28, 29, 30, 31, 32, 33, 34, 35, 36, 37, 38, 39, 40, 41, 42, 43, 44, 45, 46, 47, 48, 49, 50, 51, 52, 53, 54, 55, 56, 57, 58, 59]) rfl ?_
                refine F.q rfl rfl rfl (wanted_none rfl) (r_move rfl) ?_
                refine F.q rfl rfl rfl (wanted_none rfl) (r_move rfl) ?_
                refine F.q rfl rfl rfl (wanted_none rfl) (r_neq rfl rfl) ?_
                refine F.q rfl rfl rfl (wanted_none rfl) (r_move rfl) ?_
                refine F.q rfl rfl rfl (wg rfl rfl rfl g106) (r_move rfl) ?_
                refine F.q rfl rfl rfl (wg rfl rfl rfl g106) (r_move rfl) ?_
                refine F.q rfl rfl rfl (wg rfl rfl rfl g106) (r_neqB Try.underlying4 rfl rfl) ?_
                refine F.q rfl rfl rfl (wanted_none rfl) (r_pickf rfl rfl g106) ?_
                refine F.q rfl rfl rfl (wanted_none rfl) (r_move rfl) ?_
                refine F.q rfl rfl rfl (wg rfl rfl rfl g111) (r_move rfl) ?_
                refine F.q rfl rfl rfl (wg rfl rfl rfl g111) (r_move rfl) ?_
                refine F.q rfl rfl rfl (wg rfl rfl rfl g111) (r_neqB Try.underlying4 rfl rfl) ?_
                refine F.q rfl rfl rfl (wanted_none rfl) (r_pickf rfl rfl g111) ?_
                refine F.q rfl rfl rfl (wanted_none rfl) (r_move rfl) ?_
                refine F.q rfl rfl rfl (wg rfl rfl rfl g116) (r_move rfl) ?_
                refine F.q rfl rfl rfl (wg rfl rfl rfl g116) (r_move rfl) ?_
                refine F.qc rfl rfl rfl (wg rfl rfl rfl g116) (q_callF (xs := _) rfl ok20 rfl rfl (fun w hw => laws_vInts.ok h119 w ((rd_sl (i := 9) rfl) w hw) ((rd_sl (i := 8) rfl) w hw))) ?_
                refine F.q rfl rfl rfl (wg rfl rfl rfl g116) (r_not rfl) ?_
                refine F.q rfl rfl rfl (wanted_none rfl) (r_pickf rfl rfl g116) ?_
                refine F.q rfl rfl rfl (wanted_none rfl) (r_move rfl) ?_
                refine F.q rfl rfl rfl (wg rfl rfl rfl g122) (r_move rfl) ?_
                refine F.q rfl rfl rfl (wg rfl rfl rfl g122) (r_move rfl) ?_
                refine F.q rfl rfl rfl (wg rfl rfl rfl g122) (r_neq rfl rfl) ?_
                refine F.q rfl rfl rfl (wanted_none rfl) (r_pickf rfl rfl g122) ?_
                refine F.q rfl rfl rfl (wanted_none rfl) (r_move rfl) ?_
                refine F.sk rfl rfl rfl (wf rfl rfl rfl g127) ?_
                refine F.sk rfl rfl rfl (wf rfl rfl rfl g127) ?_
                refine F.sk rfl rfl rfl (wf rfl rfl rfl g127) ?_
                refine F.q rfl rfl rfl (wanted_none rfl) (r_pick rfl rfl g127) ?_
                refine F.q rfl rfl rfl (wanted_none rfl) (r_move rfl) ?_
                refine F.sk rfl rfl rfl (wf rfl rfl rfl rfl) ?_
                refine F.sk rfl rfl rfl (wf rfl rfl rfl rfl) ?_
                refine F.sk rfl rfl rfl (wf rfl rfl rfl rfl) ?_
                refine F.sk rfl rfl rfl (wf rfl rfl rfl rfl) ?_
                refine F.q rfl rfl rfl (wanted_none rfl) (r_pick rfl rfl rfl) ?_
                refine F.q rfl rfl rfl (wanted_none rfl) (r_move rfl) ?_
                refine F.sk rfl rfl rfl (wf rfl rfl rfl rfl) ?_
                refine F.sk rfl rfl rfl (wf rfl rfl rfl rfl) ?_
                refine F.sk rfl rfl rfl (wf rfl rfl rfl rfl) ?_
                refine F.q rfl rfl rfl (wanted_none rfl) (r_pick rfl rfl rfl) ?_
                refine F.q rfl rfl rfl (wanted_none rfl) (r_move rfl) ?_
                refine F.sk rfl rfl rfl (wf rfl rfl rfl rfl) ?_
                refine F.sk rfl rfl rfl (wf rfl rfl rfl rfl) ?_
                refine F.sk rfl rfl rfl (wf rfl rfl rfl rfl) ?_
                refine F.sk rfl rfl rfl (wf rfl rfl rfl rfl) ?_
                refine F.q rfl rfl rfl (wanted_none rfl) (r_pick rfl rfl rfl) ?_
                refine F.q rfl rfl rfl (wanted_none rfl) (r_move rfl) ?_
                refine F.sk rfl rfl rfl (wf rfl rfl rfl rfl) ?_
                refine F.sk rfl rfl rfl (wf rfl rfl rfl rfl) ?_
                refine F.sk rfl rfl rfl (wf rfl rfl rfl rfl) ?_
                refine F.q rfl rfl rfl (wanted_none rfl) (r_pick rfl rfl rfl) ?_
                refine F.q rfl rfl rfl (wanted_none rfl) (r_move rfl) ?_
                refine F.sk rfl rfl rfl (wf rfl rfl rfl rfl) ?_
                refine F.sk rfl rfl rfl (wf rfl rfl rfl rfl) ?_
                refine F.sk rfl rfl rfl (wf rfl rfl rfl rfl) ?_
                refine F.sk rfl rfl rfl (wanted_undef rfl rfl rfl) ?_
                refine F.sk rfl rfl rfl (wanted_undef rfl rfl rfl) ?_
                refine F.sk rfl rfl rfl (wf rfl rfl rfl rfl) ?_
                refine F.sk rfl rfl rfl (wf rfl rfl rfl rfl) ?_
                refine F.q rfl rfl rfl (wanted_none rfl) (r_pick rfl rfl rfl) ?_
                refine F.nil ?_
                cases hE_1
                refine Nrm.only [3, 4, 5, 6, 9, 10, 13, 14, 19, 20, 22, 23, 162] rfl ?_
                refine Nrm.pick [2, 10, 11, 12, 9, 7, 3, 4, 1] rfl rfl ?_
                exact hj_1 _ _ ⟨rfl, rfl⟩
              · replace hE_1 := if_ff g127 hE_1
                rcases Bool.eq_false_or_eq_true (t71_3 != t78_3) with g132 | g132
                · replace hE_1 := if_tt g132 hE_1
                  refine Tri.reg (l := [0, 1, 2, 3, 4, 5, 6, 7, 8, 9, 10, 11, 12, 13, 14, 15, 16, 17, 18, 19, 20, 21, 22, 23, 24, 25, 26, 27, 28, 29, 30, 31, 32, 33, 34, 35, 36, 37, 38, 39, 40, 41, 42, 43, 44, 45, 46, 47, 48, 49, 50, 51, 52, 53, 54, 55, 56, 57, 58, 59]) rfl ?_
                  refine F.q rfl rfl rfl (wanted_none rfl) (r_move rfl) ?_
                  refine F.q rfl rfl rfl (wanted_none rfl) (r_move rfl) ?_
                  refine F.q rfl rfl rfl (wanted_none rfl) (r_neq rfl rfl) ?_
                  refine F.q rfl rfl rfl (wanted_none rfl) (r_move rfl) ?_
                  refine F.q rfl rfl rfl (wg rfl rfl rfl g106) (r_move rfl) ?_
                  refine F.q rfl rfl rfl (wg rfl rfl rfl g106) (r_move rfl) ?_
                  refine F.q rfl rfl rfl (wg rfl rfl rfl g106) (r_neqB Try.underlying4 rfl rfl) ?_
                  refine F.q rfl rfl rfl (wanted_none rfl) (r_pickf rfl rfl g106) ?_
                  refine F.q rfl rfl rfl (wanted_none rfl) (r_move rfl) ?_
                  refine F.q rfl rfl rfl (wg rfl rfl rfl g111) (r_move rfl) ?_
                  refine F.q rfl rfl rfl (wg rfl rfl rfl g111) (r_move rfl) ?_
                  refine F.q rfl rfl rfl (wg rfl rfl rfl g111) (r_neqB Try.underlying4 rfl rfl) ?_
                  refine F.q rfl rfl rfl (wanted_none rfl) (r_pickf rfl rfl g111) ?_
                  refine F.q rfl rfl rfl (wanted_none rfl) (r_move rfl) ?_
                  refine F.q rfl rfl rfl (wg rfl rfl rfl g116) (r_move rfl) ?_
                  refine F.q rfl rfl rfl (wg rfl rfl rfl g116) (r_move rfl) ?_
                  refine F.qc rfl rfl rfl (wg rfl rfl rfl g116) (q_callF (xs := _) rfl ok20 rfl rfl (fun w hw => laws_vInts.ok h119 w ((rd_sl (i := 9) rfl) w hw) ((rd_sl (i := 8) rfl) w hw))) ?_
                  refine F.q rfl rfl rfl (wg rfl rfl rfl g116) (r_not rfl) ?_
                  refine F.q rfl rfl rfl (wanted_none rfl) (r_pickf rfl rfl g116) ?_
                  refine F.q rfl rfl rfl (wanted_none rfl) (r_move rfl) ?_
                  refine F.q rfl rfl rfl (wg rfl rfl rfl g122) (r_move rfl) ?_
                  refine F.q rfl rfl rfl (wg rfl rfl rfl g122) (r_move rfl) ?_
                  refine F.q rfl rfl rfl (wg rfl rfl rfl g122) (r_neq rfl rfl) ?_
                  refine F.q rfl rfl rfl (wanted_none rfl) (r_pickf rfl rfl g122) ?_
                  refine F.q rfl rfl rfl (wanted_none rfl) (r_move rfl) ?_
                  refine F.q rfl rfl rfl (wg rfl rfl rfl g127) (r_move rfl) ?_
                  refine F.q rfl rfl rfl (wg rfl rfl rfl g127) (r_move rfl) ?_
                  refine F.q rfl rfl rfl (wg rfl rfl rfl g127) (r_neqB Try.underlying4 rfl rfl) ?_
                  refine F.q rfl rfl rfl (wanted_none rfl) (r_pickf rfl rfl g127) ?_
                  refine F.q rfl rfl rfl (wanted_none rfl) (r_move rfl) ?_
                  refine F.sk rfl rfl rfl (wf rfl rfl rfl g132) ?_
                  refine F.sk rfl rfl rfl (wf rfl rfl rfl g132) ?_
                  refine F.sk rfl rfl rfl (wf rfl rfl rfl g132) ?_
                  refine F.sk rfl rfl rfl (wf rfl rfl rfl g132) ?_
                  refine F.q rfl rfl rfl (wanted_none rfl) (r_pick rfl rfl g132) ?_
                  refine F.q rfl rfl rfl (wanted_none rfl) (r_move rfl) ?_
                  refine F.sk rfl rfl rfl (wf rfl rfl rfl rfl) ?_
                  refine F.sk rfl rfl rfl (wf rfl rfl rfl rfl) ?_
                  refine F.sk rfl rfl rfl (wf rfl rfl rfl rfl) ?_
                  refine F.q rfl rfl rfl (wanted_none rfl) (r_pick rfl rfl rfl) ?_
                  refine F.q rfl rfl rfl (wanted_none rfl) (r_move rfl) ?_
                  refine F.sk rfl rfl rfl (wf rfl rfl rfl rfl) ?_
                  refine F.sk rfl rfl rfl (wf rfl rfl rfl rfl) ?_
                  refine F.sk rfl rfl rfl (wf rfl rfl rfl rfl) ?_
                  refine F.sk rfl rfl rfl (wf rfl rfl rfl rfl) ?_
                  refine F.q rfl rfl rfl (wanted_none rfl) (r_pick rfl rfl rfl) ?_
                  refine F.q rfl rfl rfl (wanted_none rfl) (r_move rfl) ?_
                  refine F.sk rfl rfl rfl (wf rfl rfl rfl rfl) ?_
                  refine F.sk rfl rfl rfl (wf rfl rfl rfl rfl) ?_
                  refine F.sk rfl rfl rfl (wf rfl rfl rfl rfl) ?_
                  refine F.q rfl rfl rfl (wanted_none rfl) (r_pick rfl rfl rfl) ?_
                  refine F.q rfl rfl rfl (wanted_none rfl) (r_move rfl) ?_
                  refine F.sk rfl rfl rfl (wf rfl rfl rfl rfl) ?_
                  refine F.sk rfl rfl rfl (wf rfl rfl rfl rfl) ?_
                  refine F.sk rfl rfl rfl (wf rfl rfl rfl rfl) ?_
                  refine F.sk rfl rfl rfl (wanted_undef rfl rfl rfl) ?_
                  refine F.sk rfl rfl rfl (wanted_undef rfl rfl rfl) ?_
                  refine F.sk rfl rfl rfl (wf rfl rfl rfl rfl) ?_
                  refine F.sk rfl rfl rfl (wf rfl rfl rfl rfl) ?_
                  refine F.q rfl rfl rfl (wanted_none rfl) (r_pick rfl rfl rfl) ?_
                  refine F.nil ?_
                  cases hE_1
                  refine Nrm.only [3, 4, 5, 6, 9, 10, 13, 14, 19, 20, 22, 23, 162] rfl ?_
                  refine Nrm.pick [2, 10, 11, 12, 9, 7, 3, 4, 1] rfl rfl ?_
                  exact hj_1 _ _ ⟨rfl, rfl⟩
                · replace hE_1 := if_ff g132 hE_1
                  obtain ⟨t135, h135, hE_1⟩ := bind_some hE_1
                  rcases Bool.eq_false_or_eq_true (!t135) with g138 | g138
                  · replace hE_1 := if_tt g138 hE_1
                    refine Tri.reg (l := [0, 1, 2, 3, 4, 5, 6, 7, 8, 9, 10, 11, 12, 13, 14, 15, 16, 17, 18, 19, 20, 21, 22, 23, 24, 25, 26, 27, 28, 29, 30, 31, 32, 33, 34, 35, 36, 37, 38, 39, 40, 41, 42, 43, 44, 45, 46, 47, 48, 49, 50, 51, 52, 53, 54, 55, 56, 57, 58, 59]) rfl ?_
                    refine F.q rfl rfl rfl (wanted_none rfl) (r_move rfl) ?_
                    refine F.q rfl rfl rfl (wanted_none rfl) (r_move rfl) ?_
                    refine F.q rfl rfl rfl (wanted_none rfl) (r_neq rfl rfl) ?_
                    refine F.q rfl rfl rfl (wanted_none rfl) (r_move rfl) ?_
                    refine F.q rfl rfl rfl (wg rfl rfl rfl g106) (r_move rfl) ?_
                    refine F.q rfl rfl rfl (wg rfl rfl rfl g106) (r_move rfl) ?_
                    refine F.q rfl rfl rfl (wg rfl rfl rfl g106) (r_neqB Try.underlying4 rfl rfl) ?_
                    refine F.q rfl rfl rfl (wanted_none rfl) (r_pickf rfl rfl g106) ?_
                    refine F.q rfl rfl rfl (wanted_none rfl) (r_move rfl) ?_
                    refine F.q rfl rfl rfl (wg rfl rfl rfl g111) (r_move rfl) ?_
                    refine F.q rfl rfl rfl (wg rfl rfl rfl g111) (r_move rfl) ?_
                    refine F.q rfl rfl rfl (wg rfl rfl rfl g111) (r_neqB Try.underlying4 rfl rfl) ?_
                    refine F.q rfl rfl rfl (wanted_none rfl) (r_pickf rfl rfl g111) ?_
                    refine F.q rfl rfl rfl (wanted_none rfl) (r_move rfl) ?_
                    refine F.q rfl rfl rfl (wg rfl rfl rfl g116) (r_move rfl) ?_
                    refine F.q rfl rfl rfl (wg rfl rfl rfl g116) (r_move rfl) ?_
                    refine F.qc rfl rfl rfl (wg rfl rfl rfl g116) (q_callF (xs := _) rfl ok20 rfl rfl (fun w hw => laws_vInts.ok h119 w ((rd_sl (i := 9) rfl) w hw) ((rd_sl (i := 8) rfl) w hw))) ?_
                    refine F.q rfl rfl rfl (wg rfl rfl rfl g116) (r_not rfl) ?_
                    refine F.q rfl rfl rfl (wanted_none rfl) (r_pickf rfl rfl g116) ?_
                    refine F.q rfl rfl rfl (wanted_none rfl) (r_move rfl) ?_
                    refine F.q rfl rfl rfl (wg rfl rfl rfl g122) (r_move rfl) ?_
                    refine F.q rfl rfl rfl (wg rfl rfl rfl g122) (r_move rfl) ?_
                    refine F.q rfl rfl rfl (wg rfl rfl rfl g122) (r_neq rfl rfl) ?_
                    refine F.q rfl rfl rfl (wanted_none rfl) (r_pickf rfl rfl g122) ?_
                    refine F.q rfl rfl rfl (wanted_none rfl) (r_move rfl) ?_
                    refine F.q rfl rfl rfl (wg rfl rfl rfl g127) (r_move rfl) ?_
                    refine F.q rfl rfl rfl (wg rfl rfl rfl g127) (r_move rfl) ?_
                    refine F.q rfl rfl rfl (wg rfl rfl rfl g127) (r_neqB Try.underlying4 rfl rfl) ?_
                    refine F.q rfl rfl rfl (wanted_none rfl) (r_pickf rfl rfl g127) ?_
                    refine F.q rfl rfl rfl (wanted_none rfl) (r_move rfl) ?_
                    refine F.q rfl rfl rfl (wg rfl rfl rfl g132) (r_move rfl) ?_
                    refine F.q rfl rfl rfl (wg rfl rfl rfl g132) (r_move rfl) ?_
                    refine F.qc rfl rfl rfl (wg rfl rfl rfl g132) (q_callF (xs := _) rfl ok20 rfl rfl (fun w hw => laws_vInts.ok h135 w ((rd_sl (i := 7) rfl) w hw) ((rd_sl (i := 6) rfl) w hw))) ?_
                    refine F.q rfl rfl rfl (wg rfl rfl rfl g132) (r_not rfl) ?_
                    refine F.q rfl rfl rfl (wanted_none rfl) (r_pickf rfl rfl g132) ?_
                    refine F.q rfl rfl rfl (wanted_none rfl) (r_move rfl) ?_
                    refine F.sk rfl rfl rfl (wf rfl rfl rfl g138) ?_
                    refine F.sk rfl rfl rfl (wf rfl rfl rfl g138) ?_
                    refine F.sk rfl rfl rfl (wf rfl rfl rfl g138) ?_
                    refine F.q rfl rfl rfl (wanted_none rfl) (r_pick rfl rfl g138) ?_
                    refine F.q rfl rfl rfl (wanted_none rfl) (r_move rfl) ?_
                    refine F.sk rfl rfl rfl (wf rfl rfl rfl rfl) ?_
                    refine F.sk rfl rfl rfl (wf rfl rfl rfl rfl) ?_
                    refine F.sk rfl rfl rfl (wf rfl rfl rfl rfl) ?_
                    refine F.sk rfl rfl rfl (wf rfl rfl rfl rfl) ?_
                    refine F.q rfl rfl rfl (wanted_none rfl) (r_pick rfl rfl rfl) ?_
                    refine F.q rfl rfl rfl (wanted_none rfl) (r_move rfl) ?_
                    refine F.sk rfl rfl rfl (wf rfl rfl rfl rfl) ?_
                    refine F.sk rfl rfl rfl (wf rfl rfl rfl rfl) ?_
                    refine F.sk rfl rfl rfl (wf rfl rfl rfl rfl) ?_
                    refine F.q rfl rfl rfl (wanted_none rfl) (r_pick rfl rfl rfl) ?_
                    refine F.q rfl rfl rfl (wanted_none rfl) (r_move rfl) ?_
                    refine F.sk rfl rfl rfl (wf rfl rfl rfl rfl) ?_
                    refine F.sk rfl rfl rfl (wf rfl rfl rfl rfl) ?_
                    refine F.sk rfl rfl rfl (wf rfl rfl rfl rfl) ?_
                    refine F.sk rfl rfl rfl (wanted_undef rfl rfl rfl) ?_
                    refine F.sk rfl rfl rfl (wanted_undef rfl rfl rfl) ?_
                    refine F.sk rfl rfl rfl (wf rfl rfl rfl rfl) ?_
                    refine F.sk rfl rfl rfl (wf rfl rfl rfl rfl) ?_
                    refine F.q rfl rfl rfl (wanted_none rfl) (r_pick rfl rfl rfl) ?_
                    refine F.nil ?_
                    cases hE_1
                    refine Nrm.only [3, 4, 5, 6, 9, 10, 13, 14, 19, 20, 22, 23, 162] rfl ?_
                    refine Nrm.pick [2, 10, 11, 12, 9, 7, 3, 4, 1] rfl rfl ?_
                    exact hj_1 _ _ ⟨rfl, rfl⟩
                  · replace hE_1 := if_ff g138 hE_1
                    rcases Bool.eq_false_or_eq_true (t93_2 != t100_2) with g143 | g143
                    · replace hE_1 := if_tt g143 hE_1
                      refine Tri.reg (l := [0, 1, 2, 3, 4, 5, 6, 7, 8, 9, 10, 11, 12, 13, 14, 15, 16, 17, 18, 19, 20, 21, 22, 23, 24, 25, 26, 27, 28, 29, 30, 31, 32, 33, 34, 35, 36, 37, 38, 39, 40, 41, 42, 43, 44, 45, 46, 47, 48, 49, 50, 51, 52, 53, 54, 55, 56, 57, 58, 59]) rfl ?_
                      refine F.q rfl rfl rfl (wanted_none rfl) (r_move rfl) ?_
                      refine F.q rfl rfl rfl (wanted_none rfl) (r_move rfl) ?_
                      refine F.q rfl rfl rfl (wanted_none rfl) (r_neq rfl rfl) ?_
                      refine F.q rfl rfl rfl (wanted_none rfl) (r_move rfl) ?_
                      refine F.q rfl rfl rfl (wg rfl rfl rfl g106) (r_move rfl) ?_
                      refine F.q rfl rfl rfl (wg rfl rfl rfl g106) (r_move rfl) ?_
                      refine F.q rfl rfl rfl (wg rfl rfl rfl g106) (r_neqB Try.underlying4 rfl rfl) ?_
                      refine F.q rfl rfl rfl (wanted_none rfl) (r_pickf rfl rfl g106) ?_
                      refine F.q rfl rfl rfl (wanted_none rfl) (r_move rfl) ?_
                      refine F.q rfl rfl rfl (wg rfl rfl rfl g111) (r_move rfl) ?_
                      refine F.q rfl rfl rfl (wg rfl rfl rfl g111) (r_move rfl) ?_
                      refine F.q rfl rfl rfl (wg rfl rfl rfl g111) (r_neqB Try.underlying4 rfl rfl) ?_
                      refine F.q rfl rfl rfl (wanted_none rfl) (r_pickf rfl rfl g111) ?_
                      refine F.q rfl rfl rfl (wanted_none rfl) (r_move rfl) ?_
                      refine F.q rfl rfl rfl (wg rfl rfl rfl g116) (r_move rfl) ?_
                      refine F.q rfl rfl rfl (wg rfl rfl rfl g116) (r_move rfl) ?_
                      refine F.qc rfl rfl rfl (wg rfl rfl rfl g116) (q_callF (xs := _) rfl ok20 rfl rfl (fun w hw => laws_vInts.ok h119 w ((rd_sl (i := 9) rfl) w hw) ((rd_sl (i := 8) rfl) w hw))) ?_
                      refine F.q rfl rfl rfl (wg rfl rfl rfl g116) (r_not rfl) ?_
                      refine F.q rfl rfl rfl (wanted_none rfl) (r_pickf rfl rfl g116) ?_
                      refine F.q rfl rfl rfl (wanted_none rfl) (r_move rfl) ?_
                      refine F.q rfl rfl rfl (wg rfl rfl rfl g122) (r_move rfl) ?_
                      refine F.q rfl rfl rfl (wg rfl rfl rfl g122) (r_move rfl) ?_
                      refine F.q rfl rfl rfl (wg rfl rfl rfl g122) (r_neq rfl rfl) ?_
                      refine F.q rfl rfl rfl (wanted_none rfl) (r_pickf rfl rfl g122) ?_
                      refine F.q rfl rfl rfl (wanted_none rfl) (r_move rfl) ?_
                      refine F.q rfl rfl rfl (wg rfl rfl rfl g127) (r_move rfl) ?_
                      refine F.q rfl rfl rfl (wg rfl rfl rfl g127) (r_move rfl) ?_
                      refine F.q rfl rfl rfl (wg rfl rfl rfl g127) (r_neqB Try.underlying4 rfl rfl) ?_
                      refine F.q rfl rfl rfl (wanted_none rfl) (r_pickf rfl rfl g127) ?_
                      refine F.q rfl rfl rfl (wanted_none rfl) (r_move rfl) ?_
                      refine F.q rfl rfl rfl (wg rfl rfl rfl g132) (r_move rfl) ?_
                      refine F.q rfl rfl rfl (wg rfl rfl rfl g132) (r_move rfl) ?_
                      refine F.qc rfl rfl rfl (wg rfl rfl rfl g132) (q_callF (xs := _) rfl ok20 rfl rfl (fun w hw => laws_vInts.ok h135 w ((rd_sl (i := 7) rfl) w hw) ((rd_sl (i := 6) rfl) w hw))) ?_
                      refine F.q rfl rfl rfl (wg rfl rfl rfl g132) (r_not rfl) ?_
                      refine F.q rfl rfl rfl (wanted_none rfl) (r_pickf rfl rfl g132) ?_
                      refine F.q rfl rfl rfl (wanted_none rfl) (r_move rfl) ?_
                      refine F.q rfl rfl rfl (wg rfl rfl rfl g138) (r_move rfl) ?_
                      refine F.q rfl rfl rfl (wg rfl rfl rfl g138) (r_move rfl) ?_
                      refine F.q rfl rfl rfl (wg rfl rfl rfl g138) (r_neqB Try.underlying4 rfl rfl) ?_
                      refine F.q rfl rfl rfl (wanted_none rfl) (r_pickf rfl rfl g138) ?_
                      refine F.q rfl rfl rfl (wanted_none rfl) (r_move rfl) ?_
                      refine F.sk rfl rfl rfl (wf rfl rfl rfl g143) ?_
                      refine F.sk rfl rfl rfl (wf rfl rfl rfl g143) ?_
                      refine F.sk rfl rfl rfl (wf rfl rfl rfl g143) ?_
                      refine F.sk rfl rfl rfl (wf rfl rfl rfl g143) ?_
                      refine F.q rfl rfl rfl (wanted_none rfl) (r_pick rfl rfl g143) ?_
                      refine F.q rfl rfl rfl (wanted_none rfl) (r_move rfl) ?_
                      refine F.sk rfl rfl rfl (wf rfl rfl rfl rfl) ?_
                      refine F.sk rfl rfl rfl (wf rfl rfl rfl rfl) ?_
                      refine F.sk rfl rfl rfl (wf rfl rfl rfl rfl) ?_
                      refine F.q rfl rfl rfl (wanted_none rfl) (r_pick rfl rfl rfl) ?_
                      refine F.q rfl rfl rfl (wanted_none rfl) (r_move rfl) ?_
                      refine F.sk rfl rfl rfl (wf rfl rfl rfl rfl) ?_
                      refine F.sk rfl rfl rfl (wf rfl rfl rfl rfl) ?_
                      refine F.sk rfl rfl rfl (wf rfl rfl rfl rfl) ?_
                      refine F.sk rfl rfl rfl (wanted_undef rfl rfl rfl) ?_
                      refine F.sk rfl rfl rfl (wanted_undef rfl rfl rfl) ?_
                      refine F.sk rfl rfl rfl (wf rfl rfl rfl rfl) ?_
                      refine F.sk rfl rfl rfl (wf rfl rfl rfl rfl) ?_
                      refine F.q rfl rfl rfl (wanted_none rfl) (r_pick rfl rfl rfl) ?_
                      refine F.nil ?_
                      cases hE_1
                      refine Nrm.only [3, 4, 5, 6, 9, 10, 13, 14, 19, 20, 22, 23, 162] rfl ?_
                      refine Nrm.pick [2, 10, 11, 12, 9, 7, 3, 4, 1] rfl rfl ?_
                      exact hj_1 _ _ ⟨rfl, rfl⟩
                    · replace hE_1 := if_ff g143 hE_1
                      obtain ⟨t146, h146, hE_1⟩ := bind_some hE_1
                      rcases Bool.eq_false_or_eq_true (!t146) with g149 | g149
                      · replace hE_1 := if_tt g149 hE_1
                        refine Tri.reg (l := [0, 1, 2, 3, 4, 5, 6, 7, 8, 9, 10, 11, 12, 13, 14, 15, 16, 17, 18, 19, 20, 21, 22, 23, 24, 25, 26, 27, 28, 29, 30, 31, 32, 33, 34, 35, 36, 37, 38, 39, 40, 41, 42, 43, 44, 45, 46, 47, 48, 49, 50, 51, 52, 53, 54, 55, 56, 57, 58, 59]) rfl ?_
                        refine F.q rfl rfl rfl (wanted_none rfl) (r_move rfl) ?_
                        refine F.q rfl rfl rfl (wanted_none rfl) (r_move rfl) ?_
                        refine F.q rfl rfl rfl (wanted_none rfl) (r_neq rfl rfl) ?_
                        refine F.q rfl rfl rfl (wanted_none rfl) (r_move rfl) ?_
                        refine F.q rfl rfl rfl (wg rfl rfl rfl g106) (r_move rfl) ?_
                        refine F.q rfl rfl rfl (wg rfl rfl rfl g106) (r_move rfl) ?_
                        refine F.q rfl rfl rfl (wg rfl rfl rfl g106) (r_neqB Try.underlying4 rfl rfl) ?_
                        refine F.q rfl rfl rfl (wanted_none rfl) (r_pickf rfl rfl g106) ?_
                        refine F.q rfl rfl rfl (wanted_none rfl) (r_move rfl) ?_
                        refine F.q rfl rfl rfl (wg rfl rfl rfl g111) (r_move rfl) ?_
                        refine F.q rfl rfl rfl (wg rfl rfl rfl g111) (r_move rfl) ?_
                        refine F.q rfl rfl rfl (wg rfl rfl rfl g111) (r_neqB Try.underlying4 rfl rfl) ?_
                        refine F.q rfl rfl rfl (wanted_none rfl) (r_pickf rfl rfl g111) ?_
                        refine F.q rfl rfl rfl (wanted_none rfl) (r_move rfl) ?_
                        refine F.q rfl rfl rfl (wg rfl rfl rfl g116) (r_move rfl) ?_
                        refine F.q rfl rfl rfl (wg rfl rfl rfl g116) (r_move rfl) ?_
                        refine F.qc rfl rfl rfl (wg rfl rfl rfl g116) (q_callF (xs := _) rfl ok20 rfl rfl (fun w hw => laws_vInts.ok h119 w ((rd_sl (i := 9) rfl) w hw) ((rd_sl (i := 8) rfl) w hw))) ?_
                        refine F.q rfl rfl rfl (wg rfl rfl rfl g116) (r_not rfl) ?_
                        refine F.q rfl rfl rfl (wanted_none rfl) (r_pickf rfl rfl g116) ?_
                        refine F.q rfl rfl rfl (wanted_none rfl) (r_move rfl) ?_
                        refine F.q rfl rfl rfl (wg rfl rfl rfl g122) (r_move rfl) ?_
                        refine F.q rfl rfl rfl (wg rfl rfl rfl g122) (r_move rfl) ?_
                        refine F.q rfl rfl rfl (wg rfl rfl rfl g122) (r_neq rfl rfl) ?_
                        refine F.q rfl rfl rfl (wanted_none rfl) (r_pickf rfl rfl g122) ?_
                        refine F.q rfl rfl rfl (wanted_none rfl) (r_move rfl) ?_
                        refine F.q rfl rfl rfl (wg rfl rfl rfl g127) (r_move rfl) ?_
                        refine F.q rfl rfl rfl (wg rfl rfl rfl g127) (r_move rfl) ?_
                        refine F.q rfl rfl rfl (wg rfl rfl rfl g127) (r_neqB Try.underlying4 rfl rfl) ?_
                        refine F.q rfl rfl rfl (wanted_none rfl) (r_pickf rfl rfl g127) ?_
                        refine F.q rfl rfl rfl (wanted_none rfl) (r_move rfl) ?_
                        refine F.q rfl rfl rfl (wg rfl rfl rfl g132) (r_move rfl) ?_
                        refine F.q rfl rfl rfl (wg rfl rfl rfl g132) (r_move rfl) ?_
                        refine F.qc rfl rfl rfl (wg rfl rfl rfl g132) (q_callF (xs := _) rfl ok20 rfl rfl (fun w hw => laws_vInts.ok h135 w ((rd_sl (i := 7) rfl) w hw) ((rd_sl (i := 6) rfl) w hw))) ?_
                        refine F.q rfl rfl rfl (wg rfl rfl rfl g132) (r_not rfl) ?_
                        refine F.q rfl rfl rfl (wanted_none rfl) (r_pickf rfl rfl g132) ?_
                        refine F.q rfl rfl rfl (wanted_none rfl) (r_move rfl) ?_
                        refine F.q rfl rfl rfl (wg rfl rfl rfl g138) (r_move rfl) ?_
                        refine F.q rfl rfl rfl (wg rfl rfl rfl g138) (r_move rfl) ?_
                        refine F.q rfl rfl rfl (wg rfl rfl rfl g138) (r_neqB Try.underlying4 rfl rfl) ?_
                        refine F.q rfl rfl rfl (wanted_none rfl) (r_pickf rfl rfl g138) ?_
                        refine F.q rfl rfl rfl (wanted_none rfl) (r_move rfl) ?_
                        refine F.q rfl rfl rfl (wg rfl rfl rfl g143) (r_move rfl) ?_
                        refine F.q rfl rfl rfl (wg rfl rfl rfl g143) (r_move rfl) ?_
                        refine F.qc rfl rfl rfl (wg rfl rfl rfl g143) (q_callF (xs := _) rfl ok20 rfl rfl (fun w hw => laws_vInts.ok h146 w ((rd_sl (i := 1) rfl) w hw) ((rd_sl (i := 0) rfl) w hw))) ?_
                        refine F.q rfl rfl rfl (wg rfl rfl rfl g143) (r_not rfl) ?_
                        refine F.q rfl rfl rfl (wanted_none rfl) (r_pickf rfl rfl g143) ?_
                        refine F.q rfl rfl rfl (wanted_none rfl) (r_move rfl) ?_
                        refine F.sk rfl rfl rfl (wf rfl rfl rfl g149) ?_
                        refine F.sk rfl rfl rfl (wf rfl rfl rfl g149) ?_
                        refine F.sk rfl rfl rfl (wf rfl rfl rfl g149) ?_
                        refine F.q rfl rfl rfl (wanted_none rfl) (r_pick rfl rfl g149) ?_
                        refine F.q rfl rfl rfl (wanted_none rfl) (r_move rfl) ?_
                        refine F.sk rfl rfl rfl (wf rfl rfl rfl rfl) ?_
                        refine F.sk rfl rfl rfl (wf rfl rfl rfl rfl) ?_
                        refine F.sk rfl rfl rfl (wf rfl rfl rfl rfl) ?_
                        refine F.sk rfl rfl rfl (wanted_undef rfl rfl rfl) ?_
                        refine F.sk rfl rfl rfl (wanted_undef rfl rfl rfl) ?_
                        refine F.sk rfl rfl rfl (wf rfl rfl rfl rfl) ?_
                        refine F.sk rfl rfl rfl (wf rfl rfl rfl rfl) ?_
                        refine F.q rfl rfl rfl (wanted_none rfl) (r_pick rfl rfl rfl) ?_
                        refine F.nil ?_
                        cases hE_1
                        refine Nrm.only [3, 4, 5, 6, 9, 10, 13, 14, 19, 20, 22, 23, 162] rfl ?_
                        refine Nrm.pick [2, 10, 11, 12, 9, 7, 3, 4, 1] rfl rfl ?_
                        exact hj_1 _ _ ⟨rfl, rfl⟩
                      · replace hE_1 := if_ff g149 hE_1
                        rcases Bool.eq_false_or_eq_true (t59_2 != t71_3) with g154 | g154
                        · replace hE_1 := if_tt g154 hE_1
                          refine Tri.reg (l := [0, 1, 2, 3, 4, 5, 6, 7, 8, 9, 10, 11, 12, 13, 14, 15, 16, 17, 18, 19, 20, 21, 22, 23, 24, 25, 26, 27, 28, 29, 30, 31, 32, 33, 34, 35, 36, 37, 38, 39, 40, 41, 42, 43, 44, 45, 46, 47, 48, 49, 50, 51, 52, 53, 54, 55, 56, 57, 58, 59]) rfl ?_
                          refine F.q rfl rfl rfl (wanted_none rfl) (r_move rfl) ?_
                          refine F.q rfl rfl rfl (wanted_none rfl) (r_move rfl) ?_
                          refine F.q rfl rfl rfl (wanted_none rfl) (r_neq rfl rfl) ?_
                          refine F.q rfl rfl rfl (wanted_none rfl) (r_move rfl) ?_
                          refine F.q rfl rfl rfl (wg rfl rfl rfl g106) (r_move rfl) ?_
                          refine F.q rfl rfl rfl (wg rfl rfl rfl g106) (r_move rfl) ?_
                          refine F.q rfl rfl rfl (wg rfl rfl rfl g106) (r_neqB Try.underlying4 rfl rfl) ?_
                          refine F.q rfl rfl rfl (wanted_none rfl) (r_pickf rfl rfl g106) ?_
                          refine F.q rfl rfl rfl (wanted_none rfl) (r_move rfl) ?_
                          refine F.q rfl rfl rfl (wg rfl rfl rfl g111) (r_move rfl) ?_
                          refine F.q rfl rfl rfl (wg rfl rfl rfl g111) (r_move rfl) ?_
                          refine F.q rfl rfl rfl (wg rfl rfl rfl g111) (r_neqB Try.underlying4 rfl rfl) ?_
                          refine F.q rfl rfl rfl (wanted_none rfl) (r_pickf rfl rfl g111) ?_
                          refine F.q rfl rfl rfl (wanted_none rfl) (r_move rfl) ?_
                          refine F.q rfl rfl rfl (wg rfl rfl rfl g116) (r_move rfl) ?_
                          refine F.q rfl rfl rfl (wg rfl rfl rfl g116) (r_move rfl) ?_
                          refine F.qc rfl rfl rfl (wg rfl rfl rfl g116) (q_callF (xs := _) rfl ok20 rfl rfl (fun w hw => laws_vInts.ok h119 w ((rd_sl (i := 9) rfl) w hw) ((rd_sl (i := 8) rfl) w hw))) ?_
                          refine F.q rfl rfl rfl (wg rfl rfl rfl g116) (r_not rfl) ?_
                          refine F.q rfl rfl rfl (wanted_none rfl) (r_pickf rfl rfl g116) ?_
                          refine F.q rfl rfl rfl (wanted_none rfl) (r_move rfl) ?_
                          refine F.q rfl rfl rfl (wg rfl rfl rfl g122) (r_move rfl) ?_
                          refine F.q rfl rfl rfl (wg rfl rfl rfl g122) (r_move rfl) ?_
                          refine F.q rfl rfl rfl (wg rfl rfl rfl g122) (r_neq rfl rfl) ?_
                          refine F.q rfl rfl rfl (wanted_none rfl) (r_pickf rfl rfl g122) ?_
                          refine F.q rfl rfl rfl (wanted_none rfl) (r_move rfl) ?_
                          refine F.q rfl rfl rfl (wg rfl rfl rfl g127) (r_move rfl) ?_
                          refine F.q rfl rfl rfl (wg rfl rfl rfl g127) (r_move rfl) ?_
                          refine F.q rfl rfl rfl (wg rfl rfl rfl g127) (r_neqB Try.underlying4 rfl rfl) ?_
                          refine F.q rfl rfl rfl (wanted_none rfl) (r_pickf rfl rfl g127) ?_
                          refine F.q rfl rfl rfl (wanted_none rfl) (r_move rfl) ?_
                          refine F.q rfl rfl rfl (wg rfl rfl rfl g132) (r_move rfl) ?_
                          refine F.q rfl rfl rfl (wg rfl rfl rfl g132) (r_move rfl) ?_
                          refine F.qc rfl rfl rfl (wg rfl rfl rfl g132) (q_callF (xs := _) rfl ok20 rfl rfl (fun w hw => laws_vInts.ok h135 w ((rd_sl (i := 7) rfl) w hw) ((rd_sl (i := 6) rfl) w hw))) ?_
                          refine F.q rfl rfl rfl (wg rfl rfl rfl g132) (r_not rfl) ?_
                          refine F.q rfl rfl rfl (wanted_none rfl) (r_pickf rfl rfl g132) ?_
                          refine F.q rfl rfl rfl (wanted_none rfl) (r_move rfl) ?_
                          refine F.q rfl rfl rfl (wg rfl rfl rfl g138) (r_move rfl) ?_
                          refine F.q rfl rfl rfl (wg rfl rfl rfl g138) (r_move rfl) ?_
                          refine F.q rfl rfl rfl (wg rfl rfl rfl g138) (r_neqB Try.underlying4 rfl rfl) ?_
                          refine F.q rfl rfl rfl (wanted_none rfl) (r_pickf rfl rfl g138) ?_
                          refine F.q rfl rfl rfl (wanted_none rfl) (r_move rfl) ?_
                          refine F.q rfl rfl rfl (wg rfl rfl rfl g143) (r_move rfl) ?_
                          refine F.q rfl rfl rfl (wg rfl rfl rfl g143) (r_move rfl) ?_
                          refine F.qc rfl rfl rfl (wg rfl rfl rfl g143) (q_callF (xs := _) rfl ok20 rfl rfl (fun w hw => laws_vInts.ok h146 w ((rd_sl (i := 1) rfl) w hw) ((rd_sl (i := 0) rfl) w hw))) ?_
                          refine F.q rfl rfl rfl (wg rfl rfl rfl g143) (r_not rfl) ?_
                          refine F.q rfl rfl rfl (wanted_none rfl) (r_pickf rfl rfl g143) ?_
                          refine F.q rfl rfl rfl (wanted_none rfl) (r_move rfl) ?_
                          refine F.q rfl rfl rfl (wg rfl rfl rfl g149) (r_move rfl) ?_
                          refine F.q rfl rfl rfl (wg rfl rfl rfl g149) (r_move rfl) ?_
                          refine F.q rfl rfl rfl (wg rfl rfl rfl g149) (r_neqB Try.underlying4 rfl rfl) ?_
                          refine F.q rfl rfl rfl (wanted_none rfl) (r_pickf rfl rfl g149) ?_
                          refine F.q rfl rfl rfl (wanted_none rfl) (r_move rfl) ?_
                          refine F.sk rfl rfl rfl (wf rfl rfl rfl g154) ?_
                          refine F.sk rfl rfl rfl (wf rfl rfl rfl g154) ?_
                          refine F.sk rfl rfl rfl (wf rfl rfl rfl g154) ?_
                          refine F.sk rfl rfl rfl (wanted_undef rfl rfl rfl) ?_
                          refine F.sk rfl rfl rfl (wanted_undef rfl rfl rfl) ?_
                          refine F.sk rfl rfl rfl (wf rfl rfl rfl g154) ?_
                          refine F.sk rfl rfl rfl (wf rfl rfl rfl g154) ?_
                          refine F.q rfl rfl rfl (wanted_none rfl) (r_pick rfl rfl g154) ?_
                          refine F.nil ?_
                          cases hE_1
                          refine Nrm.only [3, 4, 5, 6, 9, 10, 13, 14, 19, 20, 22, 23, 162] rfl ?_
                          refine Nrm.pick [2, 10, 11, 12, 9, 7, 3, 4, 1] rfl rfl ?_
                          exact hj_1 _ _ ⟨rfl, rfl⟩
                        · replace hE_1 := if_ff g154 hE_1
                          rcases Bool.eq_false_or_eq_true (t47_2) with g157 | g157
                          · replace hE_1 := if_tt g157 hE_1
                            refine Tri.reg (l := [0, 1, 2, 3, 4, 5, 6, 7, 8, 9, 10, 11, 12, 13, 14, 15, 16, 17, 18, 19, 20, 21, 22, 23, 24, 25, 26, 27, 28, 29, 30, 31, 32, 33, 34, 35, 36, 37, 38, 39, 40, 41, 42, 43, 44, 45, 46, 47, 48, 49, 50, 51, 52, 53, 54, 55, 56, 57, 58, 59]) rfl ?_
                            refine F.q rfl rfl rfl (wanted_none rfl) (r_move rfl) ?_
                            refine F.q rfl rfl rfl (wanted_none rfl) (r_move rfl) ?_
                            refine F.q rfl rfl rfl (wanted_none rfl) (r_neq rfl rfl) ?_
                            refine F.q rfl rfl rfl (wanted_none rfl) (r_move rfl) ?_
                            refine F.q rfl rfl rfl (wg rfl rfl rfl g106) (r_move rfl) ?_
                            refine F.q rfl rfl rfl (wg rfl rfl rfl g106) (r_move rfl) ?_
                            refine F.q rfl rfl rfl (wg rfl rfl rfl g106) (r_neqB Try.underlying4 rfl rfl) ?_
                            refine F.q rfl rfl rfl (wanted_none rfl) (r_pickf rfl rfl g106) ?_
                            refine F.q rfl rfl rfl (wanted_none rfl) (r_move rfl) ?_
                            refine F.q rfl rfl rfl (wg rfl rfl rfl g111) (r_move rfl) ?_
                            refine F.q rfl rfl rfl (wg rfl rfl rfl g111) (r_move rfl) ?_
                            refine F.q rfl rfl rfl (wg rfl rfl rfl g111) (r_neqB Try.underlying4 rfl rfl) ?_
                            refine F.q rfl rfl rfl (wanted_none rfl) (r_pickf rfl rfl g111) ?_
                            refine F.q rfl rfl rfl (wanted_none rfl) (r_move rfl) ?_
                            refine F.q rfl rfl rfl (wg rfl rfl rfl g116) (r_move rfl) ?_
                            refine F.q rfl rfl rfl (wg rfl rfl rfl g116) (r_move rfl) ?_
                            refine F.qc rfl rfl rfl (wg rfl rfl rfl g116) (q_callF (xs := _) rfl ok20 rfl rfl (fun w hw => laws_vInts.ok h119 w ((rd_sl (i := 9) rfl) w hw) ((rd_sl (i := 8) rfl) w hw))) ?_
                            refine F.q rfl rfl rfl (wg rfl rfl rfl g116) (r_not rfl) ?_
                            refine F.q rfl rfl rfl (wanted_none rfl) (r_pickf rfl rfl g116) ?_
                            refine F.q rfl rfl rfl (wanted_none rfl) (r_move rfl) ?_
                            refine F.q rfl rfl rfl (wg rfl rfl rfl g122) (r_move rfl) ?_
                            refine F.q rfl rfl rfl (wg rfl rfl rfl g122) (r_move rfl) ?_
                            refine F.q rfl rfl rfl (wg rfl rfl rfl g122) (r_neq rfl rfl) ?_
                            refine F.q rfl rfl rfl (wanted_none rfl) (r_pickf rfl rfl g122) ?_
                            refine F.q rfl rfl rfl (wanted_none rfl) (r_move rfl) ?_
                            refine F.q rfl rfl rfl (wg rfl rfl rfl g127) (r_move rfl) ?_
                            refine F.q rfl rfl rfl (wg rfl rfl rfl g127) (r_move rfl) ?_
                            refine F.q rfl rfl rfl (wg rfl rfl rfl g127) (r_neqB Try.underlying4 rfl rfl) ?_
                            refine F.q rfl rfl rfl (wanted_none rfl) (r_pickf rfl rfl g127) ?_
                            refine F.q rfl rfl rfl (wanted_none rfl) (r_move rfl) ?_
                            refine F.q rfl rfl rfl (wg rfl rfl rfl g132) (r_move rfl) ?_
                            refine F.q rfl rfl rfl (wg rfl rfl rfl g132) (r_move rfl) ?_
                            refine F.qc rfl rfl rfl (wg rfl rfl rfl g132) (q_callF (xs := _) rfl ok20 rfl rfl (fun w hw => laws_vInts.ok h135 w ((rd_sl (i := 7) rfl) w hw) ((rd_sl (i := 6) rfl) w hw))) ?_
                            refine F.q rfl rfl rfl (wg rfl rfl rfl g132) (r_not rfl) ?_
                            refine F.q rfl rfl rfl (wanted_none rfl) (r_pickf rfl rfl g132) ?_
                            refine F.q rfl rfl rfl (wanted_none rfl) (r_move rfl) ?_
                            refine F.q rfl rfl rfl (wg rfl rfl rfl g138) (r_move rfl) ?_
                            refine F.q rfl rfl rfl (wg rfl rfl rfl g138) (r_move rfl) ?_
                            refine F.q rfl rfl rfl (wg rfl rfl rfl g138) (r_neqB Try.underlying4 rfl rfl) ?_
                            refine F.q rfl rfl rfl (wanted_none rfl) (r_pickf rfl rfl g138) ?_
                            refine F.q rfl rfl rfl (wanted_none rfl) (r_move rfl) ?_
                            refine F.q rfl rfl rfl (wg rfl rfl rfl g143) (r_move rfl) ?_
                            refine F.q rfl rfl rfl (wg rfl rfl rfl g143) (r_move rfl) ?_
                            refine F.qc rfl rfl rfl (wg rfl rfl rfl g143) (q_callF (xs := _) rfl ok20 rfl rfl (fun w hw => laws_vInts.ok h146 w ((rd_sl (i := 1) rfl) w hw) ((rd_sl (i := 0) rfl) w hw))) ?_
                            refine F.q rfl rfl rfl (wg rfl rfl rfl g143) (r_not rfl) ?_
                            refine F.q rfl rfl rfl (wanted_none rfl) (r_pickf rfl rfl g143) ?_
                            refine F.q rfl rfl rfl (wanted_none rfl) (r_move rfl) ?_
                            refine F.q rfl rfl rfl (wg rfl rfl rfl g149) (r_move rfl) ?_
                            refine F.q rfl rfl rfl (wg rfl rfl rfl g149) (r_move rfl) ?_
                            refine F.q rfl rfl rfl (wg rfl rfl rfl g149) (r_neqB Try.underlying4 rfl rfl) ?_
                            refine F.q rfl rfl rfl (wanted_none rfl) (r_pickf rfl rfl g149) ?_
                            refine F.q rfl rfl rfl (wanted_none rfl) (r_move rfl) ?_
                            refine F.q rfl rfl rfl (wg rfl rfl rfl g154) (r_move rfl) ?_
                            refine F.q rfl rfl rfl (wg rfl rfl rfl g154) (r_move rfl) ?_
                            refine F.q rfl rfl rfl (wg rfl rfl rfl g154) (r_move rfl) ?_
                            refine F.q rfl rfl rfl (wg rfl rfl rfl g157) (r_move rfl) ?_
                            refine F.q rfl rfl rfl (wg rfl rfl rfl g157) (r_gtr rfl rfl) ?_
                            refine F.q rfl rfl rfl (wg rfl rfl rfl g154) (r_pick rfl rfl g157) ?_
                            refine F.q rfl rfl rfl (wg rfl rfl rfl g154) (r_neqB Try.underlying4 rfl rfl) ?_
                            refine F.q rfl rfl rfl (wanted_none rfl) (r_pickf rfl rfl g154) ?_
                            refine F.nil ?_
                            cases hE_1
                            refine Nrm.only [3, 4, 5, 6, 9, 10, 13, 14, 19, 20, 22, 23, 162] rfl ?_
                            refine Nrm.pick [2, 10, 11, 12, 9, 7, 3, 4, 1] rfl rfl ?_
                            exact hj_1 _ _ ⟨rfl, rfl⟩
                          · replace hE_1 := if_ff g157 hE_1
                            refine Tri.reg (l := [0, 1, 2, 3, 4, 5, 6, 7, 8, 9, 10, 11, 12, 13, 14, 15, 16, 17, 18, 19, 20, 21, 22, 23, 24, 25, 26, 27, 28, 29, 30, 31, 32, 33, 34, 35, 36, 37, 38, 39, 40, 41, 42, 43, 44, 45, 46, 47, 48, 49, 50, 51, 52, 53, 54, 55, 56, 57, 58, 59]) rfl ?_
                            refine F.q rfl rfl rfl (wanted_none rfl) (r_move rfl) ?_
                            refine F.q rfl rfl rfl (wanted_none rfl) (r_move rfl) ?_
                            refine F.q rfl rfl rfl (wanted_none rfl) (r_neq rfl rfl) ?_
                            refine F.q rfl rfl rfl (wanted_none rfl) (r_move rfl) ?_
                            refine F.q rfl rfl rfl (wg rfl rfl rfl g106) (r_move rfl) ?_
                            refine F.q rfl rfl rfl (wg rfl rfl rfl g106) (r_move rfl) ?_
                            refine F.q rfl rfl rfl (wg rfl rfl rfl g106) (r_neqB Try.underlying4 rfl rfl) ?_
                            refine F.q rfl rfl rfl (wanted_none rfl) (r_pickf rfl rfl g106) ?_
                            refine F.q rfl rfl rfl (wanted_none rfl) (r_move rfl) ?_
                            refine F.q rfl rfl rfl (wg rfl rfl rfl g111) (r_move rfl) ?_
                            refine F.q rfl rfl rfl (wg rfl rfl rfl g111) (r_move rfl) ?_
                            refine F.q rfl rfl rfl (wg rfl rfl rfl g111) (r_neqB Try.underlying4 rfl rfl) ?_
                            refine F.q rfl rfl rfl (wanted_none rfl) (r_pickf rfl rfl g111) ?_
                            refine F.q rfl rfl rfl (wanted_none rfl) (r_move rfl) ?_
                            refine F.q rfl rfl rfl (wg rfl rfl rfl g116) (r_move rfl) ?_
                            refine F.q rfl rfl rfl (wg rfl rfl rfl g116) (r_move rfl) ?_
                            refine F.qc rfl rfl rfl (wg rfl rfl rfl g116) (q_callF (xs := _) rfl ok20 rfl rfl (fun w hw => laws_vInts.ok h119 w ((rd_sl (i := 9) rfl) w hw) ((rd_sl (i := 8) rfl) w hw))) ?_
                            refine F.q rfl rfl rfl (wg rfl rfl rfl g116) (r_not rfl) ?_
                            refine F.q rfl rfl rfl (wanted_none rfl) (r_pickf rfl rfl g116) ?_
                            refine F.q rfl rfl rfl (wanted_none rfl) (r_move rfl) ?_
                            refine F.q rfl rfl rfl (wg rfl rfl rfl g122) (r_move rfl) ?_
                            refine F.q rfl rfl rfl (wg rfl rfl rfl g122) (r_move rfl) ?_
                            refine F.q rfl rfl rfl (wg rfl rfl rfl g122) (r_neq rfl rfl) ?_
                            refine F.q rfl rfl rfl (wanted_none rfl) (r_pickf rfl rfl g122) ?_
                            refine F.q rfl rfl rfl (wanted_none rfl) (r_move rfl) ?_
                            refine F.q rfl rfl rfl (wg rfl rfl rfl g127) (r_move rfl) ?_
                            refine F.q rfl rfl rfl (wg rfl rfl rfl g127) (r_move rfl) ?_
                            refine F.q rfl rfl rfl (wg rfl rfl rfl g127) (r_neqB Try.underlying4 rfl rfl) ?_
                            refine F.q rfl rfl rfl (wanted_none rfl) (r_pickf rfl rfl g127) ?_
                            refine F.q rfl rfl rfl (wanted_none rfl) (r_move rfl) ?_
                            refine F.q rfl rfl rfl (wg rfl rfl rfl g132) (r_move rfl) ?_
                            refine F.q rfl rfl rfl (wg rfl rfl rfl g132) (r_move rfl) ?_
                            refine F.qc rfl rfl rfl (wg rfl rfl rfl g132) (q_callF (xs := _) rfl ok20 rfl rfl (fun w hw => laws_vInts.ok h135 w ((rd_sl (i := 7) rfl) w hw) ((rd_sl (i := 6) rfl) w hw))) ?_
                            refine F.q rfl rfl rfl (wg rfl rfl rfl g132) (r_not rfl) ?_
                            refine F.q rfl rfl rfl (wanted_none rfl) (r_pickf rfl rfl g132) ?_
                            refine F.q rfl rfl rfl (wanted_none rfl) (r_move rfl) ?_
                            refine F.q rfl rfl rfl (wg rfl rfl rfl g138) (r_move rfl) ?_
                            refine F.q rfl rfl rfl (wg rfl rfl rfl g138) (r_move rfl) ?_
                            refine F.q rfl rfl rfl (wg rfl rfl rfl g138) (r_neqB Try.underlying4 rfl rfl) ?_
                            refine F.q rfl rfl rfl (wanted_none rfl) (r_pickf rfl rfl g138) ?_
                            refine F.q rfl rfl rfl (wanted_none rfl) (r_move rfl) ?_
                            refine F.q rfl rfl rfl (wg rfl rfl rfl g143) (r_move rfl) ?_
                            refine F.q rfl rfl rfl (wg rfl rfl rfl g143) (r_move rfl) ?_
                            refine F.qc rfl rfl rfl (wg rfl rfl rfl g143) (q_callF (xs := _) rfl ok20 rfl rfl (fun w hw => laws_vInts.ok h146 w ((rd_sl (i := 1) rfl) w hw) ((rd_sl (i := 0) rfl) w hw))) ?_
                            refine F.q rfl rfl rfl (wg rfl rfl rfl g143) (r_not rfl) ?_
                            refine F.q rfl rfl rfl (wanted_none rfl) (r_pickf rfl rfl g143) ?_
                            refine F.q rfl rfl rfl (wanted_none rfl) (r_move rfl) ?_
                            refine F.q rfl rfl rfl (wg rfl rfl rfl g149) (r_move rfl) ?_
                            refine F.q rfl rfl rfl (wg rfl rfl rfl g149) (r_move rfl) ?_
                            refine F.q rfl rfl rfl (wg rfl rfl rfl g149) (r_neqB Try.underlying4 rfl rfl) ?_
                            refine F.q rfl rfl rfl (wanted_none rfl) (r_pickf rfl rfl g149) ?_
                            refine F.q rfl rfl rfl (wanted_none rfl) (r_move rfl) ?_
                            refine F.q rfl rfl rfl (wg rfl rfl rfl g154) (r_move rfl) ?_
                            refine F.q rfl rfl rfl (wg rfl rfl rfl g154) (r_move rfl) ?_
                            refine F.q rfl rfl rfl (wg rfl rfl rfl g154) (r_move rfl) ?_
                            refine F.sk rfl rfl rfl (wf rfl rfl rfl g157) ?_
                            refine F.sk rfl rfl rfl (wf rfl rfl rfl g157) ?_
                            refine F.q rfl rfl rfl (wg rfl rfl rfl g154) (r_pickf rfl rfl g157) ?_
                            refine F.q rfl rfl rfl (wg rfl rfl rfl g154) (r_neqB Try.underlying4 rfl rfl) ?_
                            refine F.q rfl rfl rfl (wanted_none rfl) (r_pickf rfl rfl g154) ?_
                            refine F.nil ?_
                            cases hE_1
                            refine Nrm.only [3, 4, 5, 6, 9, 10, 13, 14, 19, 20, 22, 23, 162] rfl ?_
                            refine Nrm.pick [2, 10, 11, 12, 9, 7, 3, 4, 1] rfl rfl ?_
                            exact hj_1 _ _ ⟨rfl, rfl⟩

end Go.Proofs
