/- A part of the proof of FnWorlds: what the functions of the program compute, walked on the model. No condition. -/
import Derived.Test.YtebbaacgalipaaaFnWorldsC
import Derived.Test.YtebbaacgalipaaaFnWorldsD
import Derived.Test.YtebbaacgalipaaaFnWorldsE
import Derived.Test.YtebbaacgalipaaaFnWorldsG
set_option linter.unusedSimpArgs false
/- loop.example/g01158/laws.FnWorlds -/
namespace Go.Proofs
open Go Go.Ga
set_option linter.unusedVariables false
set_option maxRecDepth 100000
set_option maxHeartbeats 4000000
def laws_FnWorlds.l1 (k : Nat) (t51_1 : List (List Int)) (x40 : Int) : Nat → Int → Option ((Unit) ⊕ (Bool))
 | 0, _ => none
 | n + 1, x41 => (rdl t51_1 x40).bind fun t303 => (if (decide (x41 < (t303.length : Int))) = true then (rdl t51_1 x40).bind fun t311 => (rdl t311 x41).bind fun t314 => (rdl t51_1 (w64 (x40 - 1))).bind fun t319 => (rdl t319 x41).bind fun t322 => (rdl t51_1 (w64 (x40 - 1))).bind fun t328 => (rdl t328 x41).bind fun t331 => (if ((band t314 t322) != t331) = true then some (Sum.inr false) else laws_FnWorlds.l1 k t51_1 x40 n (w64 (x41 + 1))) else some (Sum.inl ()))

def laws_FnWorlds.l2 (k : Nat) (t48_1 : List (Int × List (Int × Int × Int) × List Int)) (t48_2 : List (List Int)) (t51_1 : List (List Int)) (t76_1 : List Int) (t156_1 : List Int) : Nat → Int → Option ((Unit) ⊕ (Bool))
 | 0, _ => none
 | n + 1, x42 => (if (decide (x42 < (t76_1.length : Int))) = true then (impl_CanEver.f k t48_1 t48_2 x42).bind fun (t343_1, t343_2) => ((if (!t343_2) = true then some true else (rdl t76_1 x42).bind fun t351 => (if (decide (t351 ≥ (t51_1.length : Int))) = true then some true else (rdl t76_1 x42).bind fun t360 => (if (decide (t360 ≥ 0)) = true then (rdl t156_1 x42).bind fun t366 => (if (decide (t366 < 0)) = true then some true else (rdl t156_1 x42).bind fun t372 => (rdl t76_1 x42).bind fun t376 => (if (decide (t372 > t376)) = true then some true else (rdl t156_1 x42).bind fun t385 => (if (decide (t385 ≥ 0)) = true then some (!t343_1) else some false))) else (rdl t156_1 x42).bind fun t385 => (if (decide (t385 ≥ 0)) = true then some (!t343_1) else some false))))).bind fun y392 => (if y392 = true then some (Sum.inr false) else laws_FnWorlds.l2 k t48_1 t48_2 t51_1 t76_1 t156_1 n (w64 (x42 + 1))) else some (Sum.inl ()))

def laws_FnWorlds.l0 (k : Nat) (t51_1 : List (List Int)) : Nat → Int → Option ((Unit) ⊕ (Bool))
 | 0, _ => none
 | n + 1, x40 => (if (decide (x40 < (t51_1.length : Int))) = true then (laws_FnWorlds.l1 k t51_1 x40 k 0).bind fun s => Lr s (fun r => some (Sum.inr r)) fun _ => laws_FnWorlds.l0 k t51_1 n (w64 (x40 + 1)) else some (Sum.inl ()))

def laws_FnWorlds.l4 (k : Nat) (t51_1 : List (List Int)) (x40r : Int) : Nat → Int → Option ((Unit) ⊕ (Bool))
 | 0, _ => none
 | n + 1, x41r => (rdl t51_1 x40r).bind fun t303 => (if (decide (x41r < (t303.length : Int))) = true then (rdl t51_1 x40r).bind fun t311 => (rdl t311 x41r).bind fun t314 => (rdl t51_1 (w64 (x40r - 1))).bind fun t319 => (rdl t319 x41r).bind fun t322 => (rdl t51_1 (w64 (x40r - 1))).bind fun t328 => (rdl t328 x41r).bind fun t331 => (if ((band t314 t322) != t331) = true then some (Sum.inr false) else laws_FnWorlds.l4 k t51_1 x40r n (w64 (x41r + 1))) else some (Sum.inl ()))

def laws_FnWorlds.l5 (k : Nat) (t48_1 : List (Int × List (Int × Int × Int) × List Int)) (t48_2 : List (List Int)) (t51_1 : List (List Int)) (t76_1 : List Int) (t156_1 : List Int) : Nat → Int → Option ((Unit) ⊕ (Bool))
 | 0, _ => none
 | n + 1, x42r => (if (decide (x42r < (t76_1.length : Int))) = true then (impl_CanEver.f k t48_1 t48_2 x42r).bind fun (t343_1, t343_2) => ((if (!t343_2) = true then some true else (rdl t76_1 x42r).bind fun t351 => (if (decide (t351 ≥ (t51_1.length : Int))) = true then some true else (rdl t76_1 x42r).bind fun t360 => (if (decide (t360 ≥ 0)) = true then (rdl t156_1 x42r).bind fun t366 => (if (decide (t366 < 0)) = true then some true else (rdl t156_1 x42r).bind fun t372 => (rdl t76_1 x42r).bind fun t376 => (if (decide (t372 > t376)) = true then some true else (rdl t156_1 x42r).bind fun t385 => (if (decide (t385 ≥ 0)) = true then some (!t343_1) else some false))) else (rdl t156_1 x42r).bind fun t385 => (if (decide (t385 ≥ 0)) = true then some (!t343_1) else some false))))).bind fun y392r => (if y392r = true then some (Sum.inr false) else laws_FnWorlds.l5 k t48_1 t48_2 t51_1 t76_1 t156_1 n (w64 (x42r + 1))) else some (Sum.inl ()))

def laws_FnWorlds.l3 (k : Nat) (t51_1 : List (List Int)) : Nat → Int → Option ((Unit) ⊕ (Bool))
 | 0, _ => none
 | n + 1, x40r => (if (decide (x40r < (t51_1.length : Int))) = true then (laws_FnWorlds.l4 k t51_1 x40r k 0).bind fun s => Lr s (fun r => some (Sum.inr r)) fun _ => laws_FnWorlds.l3 k t51_1 n (w64 (x40r + 1)) else some (Sum.inl ()))

def laws_FnWorlds.f (k : Nat) (a0 : List By) : Option (Bool) := (laws_rBig.f k a0).bind fun t46 => (if t46 = true then some true else (spec_DrawRoundSets.f k a0).bind fun (t48_1, t48_2) => (impl_RoundSets.f k t48_1 t48_2).bind fun (t51_1, t51_2) => (spec_RoundSets.f k t48_1 t48_2).bind fun (t56_1, t56_2) => ((if (t51_2 != t56_2) = true then some true else (impl_IsWorlds.f k t48_1 t48_2).bind fun t65 => (if (t51_2 != t65) = true then some true else (laws_rTable.f k t51_1 t56_1).bind fun t71 => some (!t71)))).bind fun y73 => (if y73 = true then some false else (impl_WonRounds.f k t48_1 t48_2).bind fun (t76_1, t76_2) => (spec_WonRounds.f k t48_1 t48_2).bind fun (t81_1, t81_2) => ((if (t76_2 != t81_2) = true then some true else (if (t76_2 != t51_2) = true then some true else (laws_rInts.f k t76_1 t81_1).bind fun t95 => some (!t95)))).bind fun y97 => (if y97 = true then some false else (impl_AllWon.f k t48_1 t48_2).bind fun (t100_1, t100_2) => (spec_AllWon.f k t48_1 t48_2).bind fun (t105_1, t105_2) => ((if (t100_1 != t105_1) = true then some true else (if (t100_2 != t105_2) = true then some true else (if (t100_2 != t51_2) = true then some true else (if t51_2 = true then (laws_rHas.f k t76_1 (-1)).bind fun t126 => some (t100_1 == t126) else some false))))).bind fun y129 => (if y129 = true then some false else (impl_ReleaseSets.f k t48_1 t48_2).bind fun (t132_1, t132_2) => (spec_ReleaseSets.f k t48_1 t48_2).bind fun (t137_1, t137_2) => ((if (t132_2 != t137_2) = true then some true else (if (t132_2 != t51_2) = true then some true else (laws_rTable.f k t132_1 t137_1).bind fun t151 => some (!t151)))).bind fun y153 => (if y153 = true then some false else (impl_ReleaseRounds.f k t48_1 t48_2).bind fun (t156_1, t156_2) => (spec_ReleaseRounds.f k t48_1 t48_2).bind fun (t161_1, t161_2) => ((if (t156_2 != t161_2) = true then some true else (if (t156_2 != t51_2) = true then some true else (laws_rInts.f k t156_1 t161_1).bind fun t175 => some (!t175)))).bind fun y177 => (if y177 = true then some false else (spec_DrawLeansOn.f k a0).bind fun (t180_1, t180_2, t180_3) => (impl_LeansOn.f k t180_1 t180_2 t180_3).bind fun (t186_1, t186_2) => (spec_LeansOn.f k t180_1 t180_2 t180_3).bind fun (t192_1, t192_2) => ((if (t186_2 != t192_2) = true then some true else (laws_rInts.f k t186_1 t192_1).bind fun t201 => (if (!t201) = true then some true else (laws_rHas.f k t186_1 t180_3).bind fun t207 => some t207))).bind fun y208 => (if y208 = true then some false else (impl_ReachedIn.f k t180_1 t180_2 t180_3).bind fun (t212_1, t212_2) => (spec_ReachedIn.f k t180_1 t180_2 t180_3).bind fun (t218_1, t218_2) => ((if (t212_2 != t218_2) = true then some true else (if (t212_2 != t186_2) = true then some true else (laws_rInts.f k t212_1 t218_1).bind fun t232 => some (!t232)))).bind fun y234 => (if y234 = true then some false else (impl_CanEver.f k t180_1 t180_2 t180_3).bind fun (t238_1, t238_2) => (spec_CanEver.f k t180_1 t180_2 t180_3).bind fun (t244_1, t244_2) => ((if (t238_1 != t244_1) = true then some true else (if (t238_2 != t244_2) = true then some true else some (t238_2 != t186_2)))).bind fun y259 => (if y259 = true then some false else (if t212_2 = true then (impl_WonRounds.f k t180_1 t180_2).bind fun (t263_1, t263_2) => ((if (!t263_2) = true then some true else (rdl t263_1 t180_3).bind fun t271 => (rdl t212_1 (w64 ((t212_1.length : Int) - 1))).bind fun t277 => (if (t271 != t277) = true then some true else (rdl t263_1 t180_3).bind fun t284 => (if (decide (t284 ≥ 0)) = true then some (!t238_1) else some false)))).bind fun y291 => (if y291 = true then some false else (if (!t51_2) = true then some true else (laws_FnWorlds.l0 k t51_1 k 1).bind fun s => Lr s some fun _ => (laws_FnWorlds.l2 k t48_1 t48_2 t51_1 t76_1 t156_1 k 0).bind fun s => Lr s some fun _ => some true)) else (if (!t51_2) = true then some true else (laws_FnWorlds.l3 k t51_1 k 1).bind fun s => Lr s some fun _ => (laws_FnWorlds.l5 k t48_1 t48_2 t51_1 t76_1 t156_1 k 0).bind fun s => Lr s some fun _ => some true)))))))))))

theorem laws_FnWorlds.ok {k : Nat}  {a0 : List By} {r0 : Bool} (h : laws_FnWorlds.f k a0 = some r0) (w : World) {va0 : Value} (hr_a0 : Rd w va0 a0) :
  Calls Try.prog 7 ([va0] : List Value).toArray w (fun e w' => e = .returned (.bool r0) ∧ Ext w w') := by
 unfold laws_FnWorlds.f at h
 have hl_va0 := hr_a0.len
 refine Calls.of_tri (N := 393) Try.func7 rfl rfl rfl (Sep.nil (M := noM)) ?_
 refine Tri.seq (Tri.reg (l := [0]) rfl ?_)
 refine F.qn rfl (r_assign rfl) (F.nil (Nrm.seq (Tri.seq (Tri.seq ?_))))
 obtain ⟨t46, h46, h⟩ := bind_some h
 refine Tri.reg (l := [0, 1]) rfl ?_
 refine F.qn rfl (r_move rfl) ?_
 refine F.qcn rfl (q_callF (xs := _) rfl ok47 rfl rfl (fun w hw => laws_rBig.ok h46 w ((fun _ hw => hr_a0.sep hw) w hw))) ?_
 refine F.nil (Nrm.seq (Tri.cond (b := t46) rfl (fun g_1 => ?_) (fun g_1 => ?_)))
 ·replace h := if_tt g_1 h
  refine Tri.seq (Tri.reg (l := [0]) rfl ?_)
  refine F.qn rfl (r_assign rfl) (F.nil (Nrm.seq (Tri.ret ?_)))
  refine Rtn.then ?_
  cases h
  exact Rtn.body (.tmp rfl .nil) (fun w hw => ⟨rfl, hw.ext⟩)
 ·replace h := if_ff g_1 h
  refine Tri.skip (Nrm.seq (Tri.seq ?_))
  obtain ⟨⟨t48_1, t48_2⟩, h48, h⟩ := bind_some h
  refine Tri.reg (l := [0, 1, 2, 3]) rfl ?_
  refine F.qn rfl (r_move rfl) ?_
  refine F.mn rfl (m_callF (xs := _) rfl ok66 rfl rfl (fun w hw => spec_DrawRoundSets.ok h48 w ((fun _ hw => hr_a0.sep hw) w hw))) ?_
  rintro _ _ ⟨_, ⟨v48_1, S48_1, v48_2, S48_2, rfl, hl_v48_1, hl_v48_2, rfl⟩, rfl⟩
  refine F.mn rfl (m_alloc ti85) ?_
  rintro _ _ ⟨b3_1, rfl, rfl⟩
  refine F.ef0 rfl rfl (wanted_none rfl) (d_storeG0 (i := 0) (cs2 := [v48_1, v48_2]) ti85 rfl rfl rfl rfl rfl (Nat.le_of_ble_eq_true rfl) (lf_cons (sl_leaf hl_v48_1) (lf_cons (sl_leaf hl_v48_2) lf_nil))) ?_
  rintro _ _ ⟨rfl, rfl⟩
  refine F.nil (Nrm.seq (Tri.seq ?_))
  obtain ⟨⟨t51_1, t51_2⟩, h51, h⟩ := bind_some h
  refine Tri.reg (l := [0, 1, 2, 3, 4, 5, 6]) rfl ?_
  refine F.qn rfl (r_loadA ta85 ti85 rfl rfl (fun w hw => (box_cells (i := 0) rfl w hw))) ?_
  refine F.mn rfl (m_callF (xs := _) rfl ok67 rfl rfl (fun w hw => impl_RoundSets.ok h51 w ((rd_sl (i := 1) rfl) w hw) ((rd_sl (i := 2) rfl) w hw))) ?_
  rintro _ _ ⟨_, ⟨v51_1, S51_1, rfl, hl_v51_1, rfl⟩, rfl⟩
  refine F.qn rfl (r_move rfl) (F.qn rfl (r_extract rfl rfl) (F.qn rfl (r_extract rfl rfl) (F.qn rfl (r_assign rfl) (F.qn rfl (r_assign rfl) (F.nil (Nrm.seq (Tri.seq (Tri.seq ?_))))))))
  obtain ⟨⟨t56_1, t56_2⟩, h56, h⟩ := bind_some h
  refine Tri.reg (l := [0, 1, 2, 3, 4, 5, 6]) rfl ?_
  refine F.qn rfl (r_loadA ta85 ti85 rfl rfl (fun w hw => (box_cells (i := 1) rfl w hw))) ?_
  refine F.mn rfl (m_callF (xs := _) rfl ok68 rfl rfl (fun w hw => spec_RoundSets.ok h56 w ((rd_sl (i := 2) rfl) w hw) ((rd_sl (i := 3) rfl) w hw))) ?_
  rintro _ _ ⟨_, ⟨v56_1, S56_1, rfl, hl_v56_1, rfl⟩, rfl⟩
  refine F.qn rfl (r_move rfl) (F.qn rfl (r_extract rfl rfl) (F.qn rfl (r_extract rfl rfl) (F.qn rfl (r_assign rfl) (F.qn rfl (r_assign rfl) (F.nil (Nrm.seq (Tri.seq ?_)))))))
  obtain ⟨y73, hE_1, h⟩ := bind_some h
  refine Tri.cut (fun e' C' => e' = [(0, va0), (3, .pointer (some ⟨b3_1, 0, none⟩)), (4, v51_1), (5, .bool t51_2), (73, .bool y73)] ∧ C' = Sep w noM [R.box b3_1 85 [v48_1, v48_2], R.sl S48_1 v48_1 (t48_1 : List (Int × List (Int × Int × Int) × List Int)), R.sl S48_2 v48_2 (t48_2 : List (List Int)), R.sl S51_1 v51_1 (t51_1 : List (List Int))]) ?_ (fun hj_1 => ?_)
  ·rintro _ _ ⟨rfl, rfl⟩
   refine Nrm.seq (Tri.cond (b := y73) rfl (fun g_2 => ?_) (fun g_2 => ?_))
   ·replace h := if_tt g_2 h
    refine Tri.seq (Tri.reg (l := [0]) rfl ?_)
    refine F.qn rfl (r_assign rfl) (F.nil (Nrm.seq (Tri.ret ?_)))
    refine Rtn.then ?_
    cases h
    exact Rtn.body (.tmp rfl .nil) (fun w hw => ⟨rfl, hw.ext⟩)
   ·replace h := if_ff g_2 h
    refine Tri.skip (Nrm.seq (Tri.seq ?_))
    obtain ⟨⟨t76_1, t76_2⟩, h76, h⟩ := bind_some h
    refine Tri.reg (l := [0, 1, 2, 3, 4, 5, 6]) rfl ?_
    refine F.qn rfl (r_loadA ta85 ti85 rfl rfl (fun w hw => (box_cells (i := 0) rfl w hw))) ?_
    refine F.mn rfl (m_callF (xs := _) rfl ok71 rfl rfl (fun w hw => impl_WonRounds.ok h76 w ((rd_sl (i := 1) rfl) w hw) ((rd_sl (i := 2) rfl) w hw))) ?_
    rintro _ _ ⟨_, ⟨v76_1, S76_1, rfl, hl_v76_1, rfl⟩, rfl⟩
    refine F.qn rfl (r_move rfl) (F.qn rfl (r_extract rfl rfl) (F.qn rfl (r_extract rfl rfl) (F.qn rfl (r_assign rfl) (F.qn rfl (r_assign rfl) (F.nil (Nrm.seq (Tri.seq (Tri.seq ?_))))))))
    obtain ⟨⟨t81_1, t81_2⟩, h81, h⟩ := bind_some h
    refine Tri.reg (l := [0, 1, 2, 3, 4, 5, 6]) rfl ?_
    refine F.qn rfl (r_loadA ta85 ti85 rfl rfl (fun w hw => (box_cells (i := 1) rfl w hw))) ?_
    refine F.mn rfl (m_callF (xs := _) rfl ok72 rfl rfl (fun w hw => spec_WonRounds.ok h81 w ((rd_sl (i := 2) rfl) w hw) ((rd_sl (i := 3) rfl) w hw))) ?_
    rintro _ _ ⟨_, ⟨v81_1, S81_1, rfl, hl_v81_1, rfl⟩, rfl⟩
    refine F.qn rfl (r_move rfl) (F.qn rfl (r_extract rfl rfl) (F.qn rfl (r_extract rfl rfl) (F.qn rfl (r_assign rfl) (F.qn rfl (r_assign rfl) (F.nil (Nrm.seq (Tri.seq ?_)))))))
    obtain ⟨y97, hE_2, h⟩ := bind_some h
    refine Tri.cut (fun e' C' => e' = [(0, va0), (3, .pointer (some ⟨b3_1, 0, none⟩)), (4, v51_1), (5, .bool t51_2), (8, v76_1), (97, .bool y97)] ∧ C' = Sep w noM [R.box b3_1 85 [v48_1, v48_2], R.sl S48_1 v48_1 (t48_1 : List (Int × List (Int × Int × Int) × List Int)), R.sl S48_2 v48_2 (t48_2 : List (List Int)), R.sl S51_1 v51_1 (t51_1 : List (List Int)), R.sl S76_1 v76_1 (t76_1 : List (Int))]) ?_ (fun hj_2 => ?_)
    ·rintro _ _ ⟨rfl, rfl⟩
     refine Nrm.seq (Tri.cond (b := y97) rfl (fun g_3 => ?_) (fun g_3 => ?_))
     ·replace h := if_tt g_3 h
      refine Tri.seq (Tri.reg (l := [0]) rfl ?_)
      refine F.qn rfl (r_assign rfl) (F.nil (Nrm.seq (Tri.ret ?_)))
      refine Rtn.then ?_
      cases h
      exact Rtn.body (.tmp rfl .nil) (fun w hw => ⟨rfl, hw.ext⟩)
     ·replace h := if_ff g_3 h
      refine Tri.skip (Nrm.seq (Tri.seq ?_))
      obtain ⟨⟨t100_1, t100_2⟩, h100, h⟩ := bind_some h
      refine Tri.reg (l := [0, 1, 2, 3, 4, 5, 6]) rfl ?_
      refine F.qn rfl (r_loadA ta85 ti85 rfl rfl (fun w hw => (box_cells (i := 0) rfl w hw))) ?_
      refine F.qcn rfl (q_callF (xs := _) rfl ok73 rfl rfl (fun w hw => impl_AllWon.ok h100 w ((rd_sl (i := 1) rfl) w hw) ((rd_sl (i := 2) rfl) w hw))) ?_
      refine F.qn rfl (r_move rfl) (F.qn rfl (r_extract rfl rfl) (F.qn rfl (r_extract rfl rfl) (F.qn rfl (r_assign rfl) (F.qn rfl (r_assign rfl) (F.nil (Nrm.seq (Tri.seq (Tri.seq ?_))))))))
      obtain ⟨⟨t105_1, t105_2⟩, h105, h⟩ := bind_some h
      refine Tri.reg (l := [0, 1, 2, 3, 4, 5, 6]) rfl ?_
      refine F.qn rfl (r_loadA ta85 ti85 rfl rfl (fun w hw => (box_cells (i := 0) rfl w hw))) ?_
      refine F.qcn rfl (q_callF (xs := _) rfl ok74 rfl rfl (fun w hw => spec_AllWon.ok h105 w ((rd_sl (i := 1) rfl) w hw) ((rd_sl (i := 2) rfl) w hw))) ?_
      refine F.qn rfl (r_move rfl) (F.qn rfl (r_extract rfl rfl) (F.qn rfl (r_extract rfl rfl) (F.qn rfl (r_assign rfl) (F.qn rfl (r_assign rfl) (F.nil (Nrm.seq (Tri.seq ?_)))))))
      obtain ⟨y129, hE_3, h⟩ := bind_some h
      refine Tri.cut (fun e' C' => e' = [(0, va0), (3, .pointer (some ⟨b3_1, 0, none⟩)), (4, v51_1), (5, .bool t51_2), (8, v76_1), (129, .bool y129)] ∧ C' = Sep w noM [R.box b3_1 85 [v48_1, v48_2], R.sl S48_1 v48_1 (t48_1 : List (Int × List (Int × Int × Int) × List Int)), R.sl S48_2 v48_2 (t48_2 : List (List Int)), R.sl S51_1 v51_1 (t51_1 : List (List Int)), R.sl S76_1 v76_1 (t76_1 : List (Int))]) ?_ (fun hj_3 => ?_)
      ·rintro _ _ ⟨rfl, rfl⟩
       refine Nrm.seq (Tri.cond (b := y129) rfl (fun g_4 => ?_) (fun g_4 => ?_))
       ·replace h := if_tt g_4 h
        refine Tri.seq (Tri.reg (l := [0]) rfl ?_)
        refine F.qn rfl (r_assign rfl) (F.nil (Nrm.seq (Tri.ret ?_)))
        refine Rtn.then ?_
        cases h
        exact Rtn.body (.tmp rfl .nil) (fun w hw => ⟨rfl, hw.ext⟩)
       ·replace h := if_ff g_4 h
        refine Tri.skip (Nrm.seq (Tri.seq ?_))
        obtain ⟨⟨t132_1, t132_2⟩, h132, h⟩ := bind_some h
        refine Tri.reg (l := [0, 1, 2, 3, 4, 5, 6]) rfl ?_
        refine F.qn rfl (r_loadA ta85 ti85 rfl rfl (fun w hw => (box_cells (i := 0) rfl w hw))) ?_
        refine F.mn rfl (m_callF (xs := _) rfl ok75 rfl rfl (fun w hw => impl_ReleaseSets.ok h132 w ((rd_sl (i := 1) rfl) w hw) ((rd_sl (i := 2) rfl) w hw))) ?_
        rintro _ _ ⟨_, ⟨v132_1, S132_1, rfl, hl_v132_1, rfl⟩, rfl⟩
        refine F.qn rfl (r_move rfl) (F.qn rfl (r_extract rfl rfl) (F.qn rfl (r_extract rfl rfl) (F.qn rfl (r_assign rfl) (F.qn rfl (r_assign rfl) (F.nil (Nrm.seq (Tri.seq (Tri.seq ?_))))))))
        obtain ⟨⟨t137_1, t137_2⟩, h137, h⟩ := bind_some h
        refine Tri.reg (l := [0, 1, 2, 3, 4, 5, 6]) rfl ?_
        refine F.qn rfl (r_loadA ta85 ti85 rfl rfl (fun w hw => (box_cells (i := 1) rfl w hw))) ?_
        refine F.mn rfl (m_callF (xs := _) rfl ok76 rfl rfl (fun w hw => spec_ReleaseSets.ok h137 w ((rd_sl (i := 2) rfl) w hw) ((rd_sl (i := 3) rfl) w hw))) ?_
        rintro _ _ ⟨_, ⟨v137_1, S137_1, rfl, hl_v137_1, rfl⟩, rfl⟩
        refine F.qn rfl (r_move rfl) (F.qn rfl (r_extract rfl rfl) (F.qn rfl (r_extract rfl rfl) (F.qn rfl (r_assign rfl) (F.qn rfl (r_assign rfl) (F.nil (Nrm.seq (Tri.seq ?_)))))))
        obtain ⟨y153, hE_4, h⟩ := bind_some h
        refine Tri.cut (fun e' C' => e' = [(0, va0), (3, .pointer (some ⟨b3_1, 0, none⟩)), (4, v51_1), (5, .bool t51_2), (8, v76_1), (153, .bool y153)] ∧ C' = Sep w noM [R.box b3_1 85 [v48_1, v48_2], R.sl S48_1 v48_1 (t48_1 : List (Int × List (Int × Int × Int) × List Int)), R.sl S48_2 v48_2 (t48_2 : List (List Int)), R.sl S51_1 v51_1 (t51_1 : List (List Int)), R.sl S76_1 v76_1 (t76_1 : List (Int))]) ?_ (fun hj_4 => ?_)
        ·rintro _ _ ⟨rfl, rfl⟩
         refine Nrm.seq (Tri.cond (b := y153) rfl (fun g_5 => ?_) (fun g_5 => ?_))
         ·replace h := if_tt g_5 h
          refine Tri.seq (Tri.reg (l := [0]) rfl ?_)
          refine F.qn rfl (r_assign rfl) (F.nil (Nrm.seq (Tri.ret ?_)))
          refine Rtn.then ?_
          cases h
          exact Rtn.body (.tmp rfl .nil) (fun w hw => ⟨rfl, hw.ext⟩)
         ·replace h := if_ff g_5 h
          refine Tri.skip (Nrm.seq (Tri.seq ?_))
          obtain ⟨⟨t156_1, t156_2⟩, h156, h⟩ := bind_some h
          refine Tri.reg (l := [0, 1, 2, 3, 4, 5, 6]) rfl ?_
          refine F.qn rfl (r_loadA ta85 ti85 rfl rfl (fun w hw => (box_cells (i := 0) rfl w hw))) ?_
          refine F.mn rfl (m_callF (xs := _) rfl ok77 rfl rfl (fun w hw => impl_ReleaseRounds.ok h156 w ((rd_sl (i := 1) rfl) w hw) ((rd_sl (i := 2) rfl) w hw))) ?_
          rintro _ _ ⟨_, ⟨v156_1, S156_1, rfl, hl_v156_1, rfl⟩, rfl⟩
          refine F.qn rfl (r_move rfl) (F.qn rfl (r_extract rfl rfl) (F.qn rfl (r_extract rfl rfl) (F.qn rfl (r_assign rfl) (F.qn rfl (r_assign rfl) (F.nil (Nrm.seq (Tri.seq (Tri.seq ?_))))))))
          obtain ⟨⟨t161_1, t161_2⟩, h161, h⟩ := bind_some h
          refine Tri.reg (l := [0, 1, 2, 3, 4, 5, 6]) rfl ?_
          refine F.qn rfl (r_loadA ta85 ti85 rfl rfl (fun w hw => (box_cells (i := 1) rfl w hw))) ?_
          refine F.mn rfl (m_callF (xs := _) rfl ok78 rfl rfl (fun w hw => spec_ReleaseRounds.ok h161 w ((rd_sl (i := 2) rfl) w hw) ((rd_sl (i := 3) rfl) w hw))) ?_
          rintro _ _ ⟨_, ⟨v161_1, S161_1, rfl, hl_v161_1, rfl⟩, rfl⟩
          refine F.qn rfl (r_move rfl) (F.qn rfl (r_extract rfl rfl) (F.qn rfl (r_extract rfl rfl) (F.qn rfl (r_assign rfl) (F.qn rfl (r_assign rfl) (F.nil (Nrm.seq (Tri.seq ?_)))))))
          obtain ⟨y177, hE_5, h⟩ := bind_some h
          refine Tri.cut (fun e' C' => e' = [(0, va0), (3, .pointer (some ⟨b3_1, 0, none⟩)), (4, v51_1), (5, .bool t51_2), (8, v76_1), (20, v156_1), (177, .bool y177)] ∧ C' = Sep w noM [R.box b3_1 85 [v48_1, v48_2], R.sl S156_1 v156_1 (t156_1 : List (Int)), R.sl S48_1 v48_1 (t48_1 : List (Int × List (Int × Int × Int) × List Int)), R.sl S48_2 v48_2 (t48_2 : List (List Int)), R.sl S51_1 v51_1 (t51_1 : List (List Int)), R.sl S76_1 v76_1 (t76_1 : List (Int))]) ?_ (fun hj_5 => ?_)
          ·rintro _ _ ⟨rfl, rfl⟩
           refine Nrm.seq (Tri.cond (b := y177) rfl (fun g_6 => ?_) (fun g_6 => ?_))
           ·replace h := if_tt g_6 h
            refine Tri.seq (Tri.reg (l := [0]) rfl ?_)
            refine F.qn rfl (r_assign rfl) (F.nil (Nrm.seq (Tri.ret ?_)))
            refine Rtn.then ?_
            cases h
            exact Rtn.body (.tmp rfl .nil) (fun w hw => ⟨rfl, hw.ext⟩)
           ·replace h := if_ff g_6 h
            refine Tri.skip (Nrm.seq (Tri.seq ?_))
            obtain ⟨⟨t180_1, t180_2, t180_3⟩, h180, h⟩ := bind_some h
            refine Tri.reg (l := [0, 1, 2, 3, 4, 5, 6, 7]) rfl ?_
            refine F.qn rfl (r_move rfl) ?_
            refine F.mn rfl (m_callF (xs := _) rfl ok79 rfl rfl (fun w hw => spec_DrawLeansOn.ok h180 w ((fun _ hw => hr_a0.sep hw) w hw))) ?_
            rintro _ _ ⟨_, ⟨v180_1, S180_1, v180_2, S180_2, rfl, hl_v180_1, hl_v180_2, rfl⟩, rfl⟩
            refine F.qn rfl (r_move rfl) (F.qn rfl (r_extract rfl rfl) (F.qn rfl (r_extract rfl rfl) ?_))
            refine F.mn rfl (m_alloc ti85) ?_
            rintro _ _ ⟨b24_1, rfl, rfl⟩
            refine F.ef0 rfl rfl (wanted_none rfl) (d_storeG0 (i := 0) (cs2 := [v180_1, v180_2]) ti85 rfl rfl rfl rfl rfl (Nat.le_of_ble_eq_true rfl) (lf_cons (sl_leaf hl_v180_1) (lf_cons (sl_leaf hl_v180_2) lf_nil))) ?_
            rintro _ _ ⟨rfl, rfl⟩
            refine F.qn rfl (r_assign rfl) (F.nil (Nrm.seq (Tri.seq ?_)))
            obtain ⟨⟨t186_1, t186_2⟩, h186, h⟩ := bind_some h
            refine Tri.reg (l := [0, 1, 2, 3, 4, 5, 6, 7]) rfl ?_
            refine F.qn rfl (r_loadA ta85 ti85 rfl rfl (fun w hw => (box_cells (i := 0) rfl w hw))) (F.qn rfl (r_move rfl) ?_)
            refine F.mn rfl (m_callF (xs := _) rfl ok80 rfl rfl (fun w hw => impl_LeansOn.ok h186 w ((rd_sl (i := 1) rfl) w hw) ((rd_sl (i := 2) rfl) w hw))) ?_
            rintro _ _ ⟨_, ⟨v186_1, S186_1, rfl, hl_v186_1, rfl⟩, rfl⟩
            refine F.qn rfl (r_move rfl) (F.qn rfl (r_extract rfl rfl) (F.qn rfl (r_extract rfl rfl) (F.qn rfl (r_assign rfl) (F.qn rfl (r_assign rfl) (F.nil (Nrm.seq (Tri.seq (Tri.seq ?_))))))))
            obtain ⟨⟨t192_1, t192_2⟩, h192, h⟩ := bind_some h
            refine Tri.reg (l := [0, 1, 2, 3, 4, 5, 6, 7]) rfl ?_
            refine F.qn rfl (r_loadA ta85 ti85 rfl rfl (fun w hw => (box_cells (i := 1) rfl w hw))) (F.qn rfl (r_move rfl) ?_)
            refine F.mn rfl (m_callF (xs := _) rfl ok81 rfl rfl (fun w hw => spec_LeansOn.ok h192 w ((rd_sl (i := 2) rfl) w hw) ((rd_sl (i := 3) rfl) w hw))) ?_
            rintro _ _ ⟨_, ⟨v192_1, S192_1, rfl, hl_v192_1, rfl⟩, rfl⟩
            refine F.qn rfl (r_move rfl) (F.qn rfl (r_extract rfl rfl) (F.qn rfl (r_extract rfl rfl) (F.qn rfl (r_assign rfl) (F.qn rfl (r_assign rfl) (F.nil (Nrm.seq (Tri.seq ?_)))))))
            obtain ⟨y208, hE_6, h⟩ := bind_some h
            refine Tri.cut (fun e' C' => e' = [(3, .pointer (some ⟨b3_1, 0, none⟩)), (4, v51_1), (5, .bool t51_2), (8, v76_1), (20, v156_1), (24, .pointer (some ⟨b24_1, 0, none⟩)), (25, .int .i64 t180_3), (27, .bool t186_2), (208, .bool y208)] ∧ C' = Sep w noM [R.box b24_1 85 [v180_1, v180_2], R.box b3_1 85 [v48_1, v48_2], R.sl S156_1 v156_1 (t156_1 : List (Int)), R.sl S180_1 v180_1 (t180_1 : List (Int × List (Int × Int × Int) × List Int)), R.sl S180_2 v180_2 (t180_2 : List (List Int)), R.sl S48_1 v48_1 (t48_1 : List (Int × List (Int × Int × Int) × List Int)), R.sl S48_2 v48_2 (t48_2 : List (List Int)), R.sl S51_1 v51_1 (t51_1 : List (List Int)), R.sl S76_1 v76_1 (t76_1 : List (Int))]) ?_ (fun hj_6 => ?_)
            ·rintro _ _ ⟨rfl, rfl⟩
             refine Nrm.seq (Tri.cond (b := y208) rfl (fun g_7 => ?_) (fun g_7 => ?_))
             ·replace h := if_tt g_7 h
              refine Tri.seq (Tri.reg (l := [0]) rfl ?_)
              refine F.qn rfl (r_assign rfl) (F.nil (Nrm.seq (Tri.ret ?_)))
              refine Rtn.then ?_
              cases h
              exact Rtn.body (.tmp rfl .nil) (fun w hw => ⟨rfl, hw.ext⟩)
             ·replace h := if_ff g_7 h
              refine Tri.skip (Nrm.seq (Tri.seq ?_))
              obtain ⟨⟨t212_1, t212_2⟩, h212, h⟩ := bind_some h
              refine Tri.reg (l := [0, 1, 2, 3, 4, 5, 6, 7]) rfl ?_
              refine F.qn rfl (r_loadA ta85 ti85 rfl rfl (fun w hw => (box_cells (i := 0) rfl w hw))) (F.qn rfl (r_move rfl) ?_)
              refine F.mn rfl (m_callF (xs := _) rfl ok82 rfl rfl (fun w hw => impl_ReachedIn.ok h212 w ((rd_sl (i := 3) rfl) w hw) ((rd_sl (i := 4) rfl) w hw))) ?_
              rintro _ _ ⟨_, ⟨v212_1, S212_1, rfl, hl_v212_1, rfl⟩, rfl⟩
              refine F.qn rfl (r_move rfl) (F.qn rfl (r_extract rfl rfl) (F.qn rfl (r_extract rfl rfl) (F.qn rfl (r_assign rfl) (F.qn rfl (r_assign rfl) (F.nil (Nrm.seq (Tri.seq (Tri.seq ?_))))))))
              obtain ⟨⟨t218_1, t218_2⟩, h218, h⟩ := bind_some h
              refine Tri.reg (l := [0, 1, 2, 3, 4, 5, 6, 7]) rfl ?_
              refine F.qn rfl (r_loadA ta85 ti85 rfl rfl (fun w hw => (box_cells (i := 1) rfl w hw))) (F.qn rfl (r_move rfl) ?_)
              refine F.mn rfl (m_callF (xs := _) rfl ok83 rfl rfl (fun w hw => spec_ReachedIn.ok h218 w ((rd_sl (i := 4) rfl) w hw) ((rd_sl (i := 5) rfl) w hw))) ?_
              rintro _ _ ⟨_, ⟨v218_1, S218_1, rfl, hl_v218_1, rfl⟩, rfl⟩
              refine F.qn rfl (r_move rfl) (F.qn rfl (r_extract rfl rfl) (F.qn rfl (r_extract rfl rfl) (F.qn rfl (r_assign rfl) (F.qn rfl (r_assign rfl) (F.nil (Nrm.seq (Tri.seq ?_)))))))
              obtain ⟨y234, hE_7, h⟩ := bind_some h
              refine Tri.cut (fun e' C' => e' = [(3, .pointer (some ⟨b3_1, 0, none⟩)), (4, v51_1), (5, .bool t51_2), (8, v76_1), (20, v156_1), (24, .pointer (some ⟨b24_1, 0, none⟩)), (25, .int .i64 t180_3), (27, .bool t186_2), (30, v212_1), (31, .bool t212_2), (234, .bool y234)] ∧ C' = Sep w noM [R.box b24_1 85 [v180_1, v180_2], R.box b3_1 85 [v48_1, v48_2], R.sl S156_1 v156_1 (t156_1 : List (Int)), R.sl S180_1 v180_1 (t180_1 : List (Int × List (Int × Int × Int) × List Int)), R.sl S180_2 v180_2 (t180_2 : List (List Int)), R.sl S212_1 v212_1 (t212_1 : List (Int)), R.sl S48_1 v48_1 (t48_1 : List (Int × List (Int × Int × Int) × List Int)), R.sl S48_2 v48_2 (t48_2 : List (List Int)), R.sl S51_1 v51_1 (t51_1 : List (List Int)), R.sl S76_1 v76_1 (t76_1 : List (Int))]) ?_ (fun hj_7 => ?_)
              ·rintro _ _ ⟨rfl, rfl⟩
               refine Nrm.seq (Tri.cond (b := y234) rfl (fun g_8 => ?_) (fun g_8 => ?_))
               ·replace h := if_tt g_8 h
                refine Tri.seq (Tri.reg (l := [0]) rfl ?_)
                refine F.qn rfl (r_assign rfl) (F.nil (Nrm.seq (Tri.ret ?_)))
                refine Rtn.then ?_
                cases h
                exact Rtn.body (.tmp rfl .nil) (fun w hw => ⟨rfl, hw.ext⟩)
               ·replace h := if_ff g_8 h
                refine Tri.skip (Nrm.seq (Tri.seq ?_))
                obtain ⟨⟨t238_1, t238_2⟩, h238, h⟩ := bind_some h
                refine Tri.reg (l := [0, 1, 2, 3, 4, 5, 6, 7]) rfl ?_
                refine F.qn rfl (r_loadA ta85 ti85 rfl rfl (fun w hw => (box_cells (i := 0) rfl w hw))) (F.qn rfl (r_move rfl) ?_)
                refine F.qcn rfl (q_callF (xs := _) rfl ok84 rfl rfl (fun w hw => impl_CanEver.ok h238 w ((rd_sl (i := 3) rfl) w hw) ((rd_sl (i := 4) rfl) w hw))) ?_
                refine F.qn rfl (r_move rfl) (F.qn rfl (r_extract rfl rfl) (F.qn rfl (r_extract rfl rfl) (F.qn rfl (r_assign rfl) (F.qn rfl (r_assign rfl) (F.nil (Nrm.seq (Tri.seq (Tri.seq ?_))))))))
                obtain ⟨⟨t244_1, t244_2⟩, h244, h⟩ := bind_some h
                refine Tri.reg (l := [0, 1, 2, 3, 4, 5, 6, 7]) rfl ?_
                refine F.qn rfl (r_loadA ta85 ti85 rfl rfl (fun w hw => (box_cells (i := 0) rfl w hw))) (F.qn rfl (r_move rfl) ?_)
                refine F.qcn rfl (q_callF (xs := _) rfl ok85 rfl rfl (fun w hw => spec_CanEver.ok h244 w ((rd_sl (i := 3) rfl) w hw) ((rd_sl (i := 4) rfl) w hw))) ?_
                refine F.qn rfl (r_move rfl) (F.qn rfl (r_extract rfl rfl) (F.qn rfl (r_extract rfl rfl) (F.qn rfl (r_assign rfl) (F.qn rfl (r_assign rfl) (F.nil (Nrm.seq (Tri.seq ?_)))))))
                obtain ⟨y259, hE_8, h⟩ := bind_some h
                refine Tri.cut (fun e' C' => e' = [(3, .pointer (some ⟨b3_1, 0, none⟩)), (4, v51_1), (5, .bool t51_2), (8, v76_1), (20, v156_1), (24, .pointer (some ⟨b24_1, 0, none⟩)), (25, .int .i64 t180_3), (30, v212_1), (31, .bool t212_2), (34, .bool t238_1), (259, .bool y259)] ∧ C' = Sep w noM [R.box b24_1 85 [v180_1, v180_2], R.box b3_1 85 [v48_1, v48_2], R.sl S156_1 v156_1 (t156_1 : List (Int)), R.sl S180_1 v180_1 (t180_1 : List (Int × List (Int × Int × Int) × List Int)), R.sl S180_2 v180_2 (t180_2 : List (List Int)), R.sl S212_1 v212_1 (t212_1 : List (Int)), R.sl S48_1 v48_1 (t48_1 : List (Int × List (Int × Int × Int) × List Int)), R.sl S48_2 v48_2 (t48_2 : List (List Int)), R.sl S51_1 v51_1 (t51_1 : List (List Int)), R.sl S76_1 v76_1 (t76_1 : List (Int))]) ?_ (fun hj_8 => ?_)
                ·rintro _ _ ⟨rfl, rfl⟩
                 refine Nrm.seq (Tri.cond (b := y259) rfl (fun g_9 => ?_) (fun g_9 => ?_))
                 ·replace h := if_tt g_9 h
                  refine Tri.seq (Tri.reg (l := [0]) rfl ?_)
                  refine F.qn rfl (r_assign rfl) (F.nil (Nrm.seq (Tri.ret ?_)))
                  refine Rtn.then ?_
                  cases h
                  exact Rtn.body (.tmp rfl .nil) (fun w hw => ⟨rfl, hw.ext⟩)
                 ·replace h := if_ff g_9 h
                  refine Tri.skip (Nrm.seq (Tri.seq (Tri.seq (Tri.reg (l := [0]) rfl ?_))))
                  refine F.qn rfl (r_move rfl) (F.nil (Nrm.seq (Tri.cond (b := t212_2) rfl (fun g_10 => ?_) (fun g_10 => ?_))))
                  ·replace h := if_tt g_10 h
                   refine Tri.seq ?_
                   obtain ⟨⟨t263_1, t263_2⟩, h263, h⟩ := bind_some h
                   refine Tri.reg (l := [0, 1, 2, 3, 4, 5, 6]) rfl ?_
                   refine F.qn rfl (r_loadA ta85 ti85 rfl rfl (fun w hw => (box_cells (i := 0) rfl w hw))) ?_
                   refine F.mn rfl (m_callF (xs := _) rfl ok71 rfl rfl (fun w hw => impl_WonRounds.ok h263 w ((rd_sl (i := 3) rfl) w hw) ((rd_sl (i := 4) rfl) w hw))) ?_
                   rintro _ _ ⟨_, ⟨v263_1, S263_1, rfl, hl_v263_1, rfl⟩, rfl⟩
                   refine F.qn rfl (r_move rfl) (F.qn rfl (r_extract rfl rfl) (F.qn rfl (r_extract rfl rfl) (F.qn rfl (r_assign rfl) (F.qn rfl (r_assign rfl) (F.nil (Nrm.seq (Tri.seq ?_)))))))
                   obtain ⟨y291, hE_9, h⟩ := bind_some h
                   refine Tri.cut (fun e' C' => e' = [(3, .pointer (some ⟨b3_1, 0, none⟩)), (4, v51_1), (5, .bool t51_2), (8, v76_1), (20, v156_1), (291, .bool y291)] ∧ C' = Sep w noM [R.box b3_1 85 [v48_1, v48_2], R.sl S156_1 v156_1 (t156_1 : List (Int)), R.sl S48_1 v48_1 (t48_1 : List (Int × List (Int × Int × Int) × List Int)), R.sl S48_2 v48_2 (t48_2 : List (List Int)), R.sl S51_1 v51_1 (t51_1 : List (List Int)), R.sl S76_1 v76_1 (t76_1 : List (Int))]) ?_ (fun hj_9 => ?_)
                   ·rintro _ _ ⟨rfl, rfl⟩
                    refine Nrm.seq (Tri.cond (b := y291) rfl (fun g_11 => ?_) (fun g_11 => ?_))
                    ·replace h := if_tt g_11 h
                     refine Tri.seq (Tri.reg (l := [0]) rfl ?_)
                     refine F.qn rfl (r_assign rfl) (F.nil (Nrm.seq (Tri.ret ?_)))
                     refine Rtn.then ?_
                     cases h
                     exact Rtn.body (.tmp rfl .nil) (fun w hw => ⟨rfl, hw.ext⟩)
                    ·replace h := if_ff g_11 h
                     refine Tri.skip (Nrm.seq (Tri.seq (Tri.seq (Tri.reg (l := [0, 1]) rfl ?_))))
                     refine F.qn rfl (r_move rfl) (F.qn rfl (r_not rfl) (F.nil (Nrm.seq (Tri.cond (b := !t51_2) rfl (fun g_12 => ?_) (fun g_12 => ?_)))))
                     ·replace h := if_tt g_12 h
                      refine Tri.seq (Tri.reg (l := [0]) rfl ?_)
                      refine F.qn rfl (r_assign rfl) (F.nil (Nrm.seq (Tri.ret ?_)))
                      refine Rtn.then ?_
                      cases h
                      exact Rtn.body (.tmp rfl .nil) (fun w hw => ⟨rfl, hw.ext⟩)
                     ·replace h := if_ff g_12 h
                      refine Tri.skip (Nrm.seq (Tri.seq (Tri.seq (Tri.reg (l := [0]) rfl ?_))))
                      refine F.qn rfl (r_assign rfl) (F.nil (Nrm.seq (Tri.freeze (fun w hwz => ?_))))
                      have hfz := hwz.ext
                      have hbz_b3_1 := box_cells (i := 0) rfl w hwz
                      have hz_1 : Rd w v156_1 (t156_1 : List (Int)) := rd_sl (i := 1) rfl w hwz
                      have hz_2 : Rd w v48_1 (t48_1 : List (Int × List (Int × Int × Int) × List Int)) := rd_sl (i := 2) rfl w hwz
                      have hz_3 : Rd w v48_2 (t48_2 : List (List Int)) := rd_sl (i := 3) rfl w hwz
                      have hz_4 : Rd w v51_1 (t51_1 : List (List Int)) := rd_sl (i := 4) rfl w hwz
                      have hz_5 : Rd w v76_1 (t76_1 : List (Int)) := rd_sl (i := 5) rfl w hwz
                      obtain ⟨s0, hE_10, h⟩ := bind_some h
                      refine Tri.block ?_
                      refine Tri.only [3, 4, 8, 20, 40] rfl ?_
                      refine Tri.pick [] rfl rfl ?_
                      refine Tri.rounds (fun n e' C' => ∃ (x40' : Int), laws_FnWorlds.l0 k t51_1 n x40' = some s0 ∧ e' = [(3, .pointer (some ⟨b3_1, 0, none⟩)), (4, v51_1), (8, v76_1), (20, v156_1), (40, .int .i64 x40')] ∧ C' = Sep w noM []) k ?_ ?_ ?_
                      ·exact ⟨1, hE_10, rfl, rfl⟩
                      ·rintro _ _ ⟨_, hE_10, _⟩
                       rw [laws_FnWorlds.l0.eq_1] at hE_10; cases hE_10
                      ·rintro n_1 _ _ ⟨x40, hE_10, rfl, rfl⟩ ih_1
                       rw [laws_FnWorlds.l0.eq_2] at hE_10
                       refine Tri.seq (Tri.seq (Tri.reg (l := [0, 1, 2, 3]) rfl ?_))
                       refine F.qn rfl (r_move rfl) (F.qn rfl (r_move rfl) (F.qn rfl (r_len Try.underlying83 rfl hl_v51_1) (F.qn rfl (r_lss rfl rfl) (F.nil (Nrm.seq (Tri.cond (b := decide (x40 < (t51_1.length : Int))) rfl (fun g_13 => ?_) (fun g_13 => ?_)))))))
                       ·replace hE_10 := if_tt g_13 hE_10
                        refine Tri.skip (Nrm.seq (Tri.seq (Tri.block ?_)))
                        refine Tri.seq (Tri.reg (l := [0]) rfl ?_)
                        refine F.qn rfl (r_assign rfl) (F.nil (Nrm.seq ?_))
                        obtain ⟨s1, hE_11, hE_10⟩ := bind_some hE_10
                        refine Tri.block ?_
                        refine Tri.only [3, 4, 8, 20, 40, 41] rfl ?_
                        refine Tri.pick [] rfl rfl ?_
                        refine Tri.rounds (fun n e' C' => ∃ (x41' : Int), laws_FnWorlds.l1 k t51_1 x40 n x41' = some s1 ∧ e' = [(3, .pointer (some ⟨b3_1, 0, none⟩)), (4, v51_1), (8, v76_1), (20, v156_1), (40, .int .i64 x40), (41, .int .i64 x41')] ∧ C' = Sep w noM []) k ?_ ?_ ?_
                        ·exact ⟨0, hE_11, rfl, rfl⟩
                        ·rintro _ _ ⟨_, hE_11, _⟩
                         rw [laws_FnWorlds.l1.eq_1] at hE_11; cases hE_11
                        ·rintro n_2 _ _ ⟨x41, hE_11, rfl, rfl⟩ ih_2
                         rw [laws_FnWorlds.l1.eq_2] at hE_11
                         refine Tri.seq (Tri.seq ?_)
                         obtain ⟨t303, h303, hE_11⟩ := bind_some hE_11
                         obtain ⟨_, hc303, hp303⟩ := Rd.elem hz_4 (rdl_some h303).2.2
                         obtain ⟨v303_0, rfl, hr_v303_0⟩ := op25 hp303
                         have hl_v303_0 := hr_v303_0.len
                         refine Tri.reg (l := [0, 1, 2, 3, 4, 5, 6]) rfl ?_
                         iterate 3 refine F.qn rfl (r_move rfl) ?_
                         refine F.qn rfl (r_indexAddrS Try.underlying83 ti25 rfl hl_v51_1 rfl (rdl_some h303).1 (rdl_some h303).2.1) (F.qn rfl (r_load ta25 rfl (fun w hw => cell_0 (hc303.sep hw) rfl)) (F.qn rfl (r_len Try.underlying25 rfl hl_v303_0) (F.qn rfl (r_lss rfl rfl) (F.nil (Nrm.seq (Tri.cond (b := decide (x41 < (t303.length : Int))) rfl (fun g_14 => ?_) (fun g_14 => ?_)))))))
                         ·replace hE_11 := if_tt g_14 hE_11
                          refine Tri.skip (Nrm.seq (Tri.seq (Tri.block ?_)))
                          refine Tri.seq ?_
                          obtain ⟨t311, h311, hE_11⟩ := bind_some hE_11
                          obtain ⟨_, hc311, hp311⟩ := Rd.elem hz_4 (rdl_some h311).2.2
                          obtain ⟨v311_0, rfl, hr_v311_0⟩ := op25 hp311
                          have hl_v311_0 := hr_v311_0.len
                          obtain ⟨t314, h314, hE_11⟩ := bind_some hE_11
                          obtain ⟨t319, h319, hE_11⟩ := bind_some hE_11
                          obtain ⟨_, hc319, hp319⟩ := Rd.elem hz_4 (rdl_some h319).2.2
                          obtain ⟨v319_0, rfl, hr_v319_0⟩ := op25 hp319
                          have hl_v319_0 := hr_v319_0.len
                          obtain ⟨t322, h322, hE_11⟩ := bind_some hE_11
                          obtain ⟨t328, h328, hE_11⟩ := bind_some hE_11
                          obtain ⟨_, hc328, hp328⟩ := Rd.elem hz_4 (rdl_some h328).2.2
                          obtain ⟨v328_0, rfl, hr_v328_0⟩ := op25 hp328
                          have hl_v328_0 := hr_v328_0.len
                          obtain ⟨t331, h331, hE_11⟩ := bind_some hE_11
                          refine Tri.drawA mixedT Sep.up [(0, true), (1, true), (2, true), (3, true), (4, true), (5, true), (6, true), (7, true), (8, true), (9, true), (10, true), (11, true), (12, true), (13, true), (14, true), (15, true), (16, true), (17, true), (18, true), (19, true), (20, true), (21, true), (22, true), (23, true), (24, true)] [] (by kernel_rfl) ?_
                          refine S.qn rfl (r_move rfl) ?_
                          refine S.qn rfl (r_move rfl) (S.qn rfl (r_indexAddrS Try.underlying83 ti25 rfl hl_v51_1 rfl (rdl_some h311).1 (rdl_some h311).2.1) (S.qn rfl (r_load ta25 rfl (fun w hw => cell_0 (hc311.sep hw) rfl)) (S.qn rfl (r_move rfl) (S.qn rfl (r_indexAddrS Try.underlying25 ti3 rfl hl_v311_0 rfl (rdl_some h314).1 (rdl_some h314).2.1) (S.qn rfl (r_load ta3 rfl (fun w hw => cell_0 (Rd.flat ((fun _ hw => hr_v311_0.sep hw) w hw) (rdl_some h314).2.2) rfl)) ?_)))))
                          refine S.qn rfl (r_move rfl) (S.qn rfl (r_move rfl) (S.qn rfl (r_sub rfl rfl) (S.qn rfl (r_indexAddrS Try.underlying83 ti25 rfl hl_v51_1 rfl (rdl_some h319).1 (rdl_some h319).2.1) (S.qn rfl (r_load ta25 rfl (fun w hw => cell_0 (hc319.sep hw) rfl)) (S.qn rfl (r_move rfl) ?_)))))
                          refine S.qn rfl (r_indexAddrS Try.underlying25 ti3 rfl hl_v319_0 rfl (rdl_some h322).1 (rdl_some h322).2.1) (S.qn rfl (r_load ta3 rfl (fun w hw => cell_0 (Rd.flat ((fun _ hw => hr_v319_0.sep hw) w hw) (rdl_some h322).2.2) rfl)) (S.qn rfl (r_and rfl rfl) (S.qn rfl (r_move rfl) (S.qn rfl (r_move rfl) (S.qn rfl (r_sub rfl rfl) ?_)))))
                          refine S.qn rfl (r_indexAddrS Try.underlying83 ti25 rfl hl_v51_1 rfl (rdl_some h328).1 (rdl_some h328).2.1) (S.qn rfl (r_load ta25 rfl (fun w hw => cell_0 (hc328.sep hw) rfl)) (S.qn rfl (r_move rfl) (S.qn rfl (r_indexAddrS Try.underlying25 ti3 rfl hl_v328_0 rfl (rdl_some h331).1 (rdl_some h331).2.1) (S.qn rfl (r_load ta3 rfl (fun w hw => cell_0 (Rd.flat ((fun _ hw => hr_v328_0.sep hw) w hw) (rdl_some h331).2.2) rfl)) (S.qn rfl (r_neq rfl rfl) (S.nil (F.nil (Nrm.seq (Tri.cond (b := (band t314 t322) != t331) rfl (fun g_15 => ?_) (fun g_15 => ?_))))))))))
                          ·replace hE_11 := if_tt g_15 hE_11
                           refine Tri.seq (Tri.reg (l := [0]) rfl ?_)
                           refine F.qn rfl (r_assign rfl) (F.nil (Nrm.seq (Tri.ret ?_)))
                           refine Rtn.block ?_
                           refine Rtn.then ?_
                           refine Rtn.then ?_
                           refine Rtn.block ?_
                           refine Rtn.block ?_
                           refine Rtn.then ?_
                           refine Rtn.then ?_
                           refine Rtn.block ?_
                           refine Rtn.then ?_
                           cases hE_11
                           replace hE_10 := Lr_inr hE_10
                           cases hE_10
                           replace h := Lr_inr h
                           cases h
                           exact Rtn.body (.tmp rfl .nil) (fun w hw => ⟨rfl, hfz.trans (hw.ext)⟩)
                          ·replace hE_11 := if_ff g_15 hE_11
                           refine Tri.skip (Nrm.block ?_)
                           refine Nrm.seq (Tri.reg (l := [0, 1, 2]) rfl ?_)
                           refine F.qn rfl (r_move rfl) (F.qn rfl (r_add rfl rfl) (F.qn rfl (r_assign rfl) (F.nil (Nrm.round ?_))))
                           refine Rnd.only [3, 4, 8, 20, 40, 41] rfl ?_
                           refine Rnd.pick [] rfl rfl ?_
                           exact ih_2 _ _ ⟨w64 (x41 + 1), hE_11, rfl, rfl⟩
                         ·replace hE_11 := if_ff g_14 hE_11
                          refine Tri.exit ?_
                          refine Exi.then ?_
                          refine Exi.then ?_
                          refine Exi.same ?_
                          cases hE_11
                          replace hE_10 := Lr_inl hE_10
                          refine Nrm.block ?_
                          refine Nrm.seq (Tri.reg (l := [0, 1, 2]) rfl ?_)
                          refine F.qn rfl (r_move rfl) (F.qn rfl (r_add rfl rfl) (F.qn rfl (r_assign rfl) (F.nil (Nrm.round ?_))))
                          refine Rnd.only [3, 4, 8, 20, 40] rfl ?_
                          refine Rnd.pick [] rfl rfl ?_
                          exact ih_1 _ _ ⟨w64 (x40 + 1), hE_10, rfl, rfl⟩
                       ·replace hE_10 := if_ff g_13 hE_10
                        refine Tri.exit ?_
                        refine Exi.then ?_
                        refine Exi.then ?_
                        refine Exi.same ?_
                        cases hE_10
                        replace h := Lr_inl h
                        refine Nrm.seq (Tri.seq (Tri.seq (Tri.reg (l := [0]) rfl ?_)))
                        refine F.qn rfl (r_assign rfl) (F.nil (Nrm.seq ?_))
                        obtain ⟨s2, hE_12, h⟩ := bind_some h
                        refine Tri.block ?_
                        refine Tri.only [3, 4, 8, 20, 42] rfl ?_
                        refine Tri.pick [] rfl rfl ?_
                        refine Tri.rounds (fun n e' C' => ∃ (x42' : Int), laws_FnWorlds.l2 k t48_1 t48_2 t51_1 t76_1 t156_1 n x42' = some s2 ∧ e' = [(3, .pointer (some ⟨b3_1, 0, none⟩)), (4, v51_1), (8, v76_1), (20, v156_1), (42, .int .i64 x42')] ∧ C' = Sep w noM []) k ?_ ?_ ?_
                        ·exact ⟨0, hE_12, rfl, rfl⟩
                        ·rintro _ _ ⟨_, hE_12, _⟩
                         rw [laws_FnWorlds.l2.eq_1] at hE_12; cases hE_12
                        ·rintro n_3 _ _ ⟨x42, hE_12, rfl, rfl⟩ ih_3
                         rw [laws_FnWorlds.l2.eq_2] at hE_12
                         refine Tri.seq (Tri.seq (Tri.reg (l := [0, 1, 2, 3]) rfl ?_))
                         refine F.qn rfl (r_move rfl) (F.qn rfl (r_move rfl) (F.qn rfl (r_len Try.underlying25 rfl hl_v76_1) (F.qn rfl (r_lss rfl rfl) (F.nil (Nrm.seq (Tri.cond (b := decide (x42 < (t76_1.length : Int))) rfl (fun g_16 => ?_) (fun g_16 => ?_)))))))
                         ·replace hE_12 := if_tt g_16 hE_12
                          refine Tri.skip (Nrm.seq (Tri.seq (Tri.block ?_)))
                          refine Tri.seq ?_
                          obtain ⟨⟨t343_1, t343_2⟩, h343, hE_12⟩ := bind_some hE_12
                          refine Tri.reg (l := [0, 1, 2, 3, 4, 5, 6, 7]) rfl ?_
                          refine F.qn rfl (r_loadA ta85 ti85 rfl rfl (fun w hw => (hbz_b3_1.sep hw))) (F.qn rfl (r_move rfl) ?_)
                          refine F.qcn rfl (q_callF (xs := _) rfl ok84 rfl rfl (fun w hw => impl_CanEver.ok h343 w ((fun _ hw => hz_2.sep hw) w hw) ((fun _ hw => hz_3.sep hw) w hw))) ?_
                          refine F.qn rfl (r_move rfl) (F.qn rfl (r_extract rfl rfl) (F.qn rfl (r_extract rfl rfl) (F.qn rfl (r_assign rfl) (F.qn rfl (r_assign rfl) (F.nil (Nrm.seq (Tri.seq ?_)))))))
                          obtain ⟨y392, hE_13, hE_12⟩ := bind_some hE_12
                          refine Tri.cut (fun e' C' => e' = [(3, .pointer (some ⟨b3_1, 0, none⟩)), (4, v51_1), (8, v76_1), (20, v156_1), (42, .int .i64 x42), (392, .bool y392)] ∧ C' = Sep w noM []) ?_ (fun hj_10 => ?_)
                          ·rintro _ _ ⟨rfl, rfl⟩
                           refine Nrm.seq (Tri.cond (b := y392) rfl (fun g_17 => ?_) (fun g_17 => ?_))
                           ·replace hE_12 := if_tt g_17 hE_12
                            refine Tri.seq (Tri.reg (l := [0]) rfl ?_)
                            refine F.qn rfl (r_assign rfl) (F.nil (Nrm.seq (Tri.ret ?_)))
                            refine Rtn.block ?_
                            refine Rtn.then ?_
                            refine Rtn.then ?_
                            refine Rtn.block ?_
                            refine Rtn.then ?_
                            cases hE_12
                            replace h := Lr_inr h
                            cases h
                            exact Rtn.body (.tmp rfl .nil) (fun w hw => ⟨rfl, hfz.trans (hw.ext)⟩)
                           ·replace hE_12 := if_ff g_17 hE_12
                            refine Tri.skip (Nrm.block ?_)
                            refine Nrm.seq (Tri.reg (l := [0, 1, 2]) rfl ?_)
                            refine F.qn rfl (r_move rfl) (F.qn rfl (r_add rfl rfl) (F.qn rfl (r_assign rfl) (F.nil (Nrm.round ?_))))
                            refine Rnd.only [3, 4, 8, 20, 42] rfl ?_
                            refine Rnd.pick [] rfl rfl ?_
                            exact ih_3 _ _ ⟨w64 (x42 + 1), hE_12, rfl, rfl⟩
                          ·rcases Bool.eq_false_or_eq_true (!t343_2) with g348 | g348
                           ·replace hE_13 := if_tt g348 hE_13
                            refine Tri.drawA mixedT Sep.up [(0, true), (1, true), (2, true), (3, true), (4, true), (5, true), (6, true), (7, true), (8, true), (9, true), (10, true), (11, true), (12, true), (13, true), (14, true), (15, true), (16, true), (17, true), (18, true), (19, true), (20, true), (21, true), (22, true), (23, true), (24, true), (25, true), (26, true), (27, true), (28, true), (29, true), (30, true), (31, true), (32, true), (33, true), (34, true), (35, true), (36, true), (37, true), (38, true), (39, true), (40, true), (41, true), (42, true), (43, true), (44, true), (45, true), (46, true)] [] (by kernel_rfl) ?_
                            refine S.qn rfl (r_move rfl) (S.qn rfl (r_not rfl) (S.qn rfl (r_move rfl) ?_))
                            iterate 7 refine S.skf rfl g348 ?_
                            refine S.qn rfl (r_pick rfl rfl g348) (S.qn rfl (r_move rfl) ?_)
                            iterate 6 refine S.skf rfl rfl ?_
                            iterate 16 refine S.sk rfl rfl rfl (wanted_undef rfl rfl rfl) ?_
                            refine S.skf rfl rfl (S.qn rfl (r_pick rfl rfl rfl) (S.qn rfl (r_move rfl) ?_))
                            iterate 6 refine S.skf rfl rfl ?_
                            refine S.sk rfl rfl rfl (wanted_undef rfl rfl rfl) ?_
                            refine S.sk rfl rfl rfl (wanted_undef rfl rfl rfl) ?_
                            refine S.skf rfl rfl (S.qn rfl (r_pick rfl rfl rfl) (S.nil (F.nil ?_)))
                            cases hE_13
                            refine Nrm.only [3, 4, 8, 20, 42, 392] rfl ?_
                            refine Nrm.pick [] rfl rfl ?_
                            exact hj_10 _ _ ⟨rfl, rfl⟩
                           ·replace hE_13 := if_ff g348 hE_13
                            obtain ⟨t351, h351, hE_13⟩ := bind_some hE_13
                            rcases Bool.eq_false_or_eq_true (decide (t351 ≥ (t51_1.length : Int))) with g357 | g357
                            ·replace hE_13 := if_tt g357 hE_13
                             refine Tri.drawA mixedT Sep.up [(0, true), (1, true), (2, true), (3, true), (4, true), (5, true), (6, true), (7, true), (8, true), (9, true), (10, true), (11, true), (12, true), (13, true), (14, true), (15, true), (16, true), (17, true), (18, true), (19, true), (20, true), (21, true), (22, true), (23, true), (24, true), (25, true), (26, true), (27, true), (28, true), (29, true), (30, true), (31, true), (32, true), (33, true), (34, true), (35, true), (36, true), (37, true), (38, true), (39, true), (40, true), (41, true), (42, true), (43, true), (44, true), (45, true), (46, true)] [] (by kernel_rfl) ?_
                             refine S.qn rfl (r_move rfl) (S.qn rfl (r_not rfl) (S.qn rfl (r_move rfl) (S.qg rfl g348 (r_move rfl) (S.qg rfl g348 (r_move rfl) (S.qg rfl g348 (r_indexAddrS Try.underlying25 ti3 rfl hl_v76_1 rfl (rdl_some h351).1 (rdl_some h351).2.1) ?_)))))
                             refine S.qg rfl g348 (r_load ta3 rfl (fun w hw => cell_0 (Rd.flat ((fun _ hw => hz_5.sep hw) w hw) (rdl_some h351).2.2) rfl)) (S.qg rfl g348 (r_move rfl) (S.qg rfl g348 (r_len Try.underlying83 rfl hl_v51_1) (S.qg rfl g348 (r_geq rfl rfl) (S.qn rfl (r_pickf rfl rfl g348) (S.qn rfl (r_move rfl) ?_)))))
                             iterate 6 refine S.skf rfl g357 ?_
                             iterate 16 refine S.sk rfl rfl rfl (wanted_undef rfl rfl rfl) ?_
                             refine S.skf rfl g357 (S.qn rfl (r_pick rfl rfl g357) (S.qn rfl (r_move rfl) ?_))
                             iterate 6 refine S.skf rfl rfl ?_
                             refine S.sk rfl rfl rfl (wanted_undef rfl rfl rfl) ?_
                             refine S.sk rfl rfl rfl (wanted_undef rfl rfl rfl) ?_
                             refine S.skf rfl rfl (S.qn rfl (r_pick rfl rfl rfl) (S.nil (F.nil ?_)))
                             cases hE_13
                             refine Nrm.only [3, 4, 8, 20, 42, 392] rfl ?_
                             refine Nrm.pick [] rfl rfl ?_
                             exact hj_10 _ _ ⟨rfl, rfl⟩
                            ·replace hE_13 := if_ff g357 hE_13
                             obtain ⟨t360, h360, hE_13⟩ := bind_some hE_13
                             rcases Bool.eq_false_or_eq_true (decide (t360 ≥ 0)) with g363 | g363
                             ·replace hE_13 := if_tt g363 hE_13
                              obtain ⟨t366, h366, hE_13⟩ := bind_some hE_13
                              rcases Bool.eq_false_or_eq_true (decide (t366 < 0)) with g369 | g369
                              ·replace hE_13 := if_tt g369 hE_13
                               refine Tri.drawA mixedT Sep.up [(0, true), (1, true), (2, true), (3, true), (4, true), (5, true), (6, true), (7, true), (8, true), (9, true), (10, true), (11, true), (12, true), (13, true), (14, true), (15, true), (16, true), (17, true), (18, true), (19, true), (20, true), (21, true), (22, true), (23, true), (24, true), (25, true), (26, true), (27, true), (28, true), (29, true), (30, true), (31, true), (32, true), (33, true), (34, true), (35, true), (36, true), (37, true), (38, true), (39, true), (40, true), (41, true), (42, true), (43, true), (44, true), (45, true), (46, true)] [] (by kernel_rfl) ?_
                               refine S.qn rfl (r_move rfl) (S.qn rfl (r_not rfl) (S.qn rfl (r_move rfl) (S.qg rfl g348 (r_move rfl) (S.qg rfl g348 (r_move rfl) (S.qg rfl g348 (r_indexAddrS Try.underlying25 ti3 rfl hl_v76_1 rfl (rdl_some h351).1 (rdl_some h351).2.1) ?_)))))
                               refine S.qg rfl g348 (r_load ta3 rfl (fun w hw => cell_0 (Rd.flat ((fun _ hw => hz_5.sep hw) w hw) (rdl_some h351).2.2) rfl)) (S.qg rfl g348 (r_move rfl) (S.qg rfl g348 (r_len Try.underlying83 rfl hl_v51_1) (S.qg rfl g348 (r_geq rfl rfl) (S.qn rfl (r_pickf rfl rfl g348) (S.qn rfl (r_move rfl) ?_)))))
                               refine S.qg rfl g357 (r_move rfl) (S.qg rfl g357 (r_move rfl) (S.qg rfl g357 (r_indexAddrS Try.underlying25 ti3 rfl hl_v76_1 rfl (rdl_some h360).1 (rdl_some h360).2.1) (S.qg rfl g357 (r_load ta3 rfl (fun w hw => cell_0 (Rd.flat ((fun _ hw => hz_5.sep hw) w hw) (rdl_some h360).2.2) rfl)) (S.qg rfl g357 (r_geq rfl rfl) (S.qg rfl g357 (r_move rfl) ?_)))))
                               refine S.qg rfl g363 (r_move rfl) (S.qg rfl g363 (r_move rfl) (S.qg rfl g363 (r_indexAddrS Try.underlying25 ti3 rfl hl_v156_1 rfl (rdl_some h366).1 (rdl_some h366).2.1) (S.qg rfl g363 (r_load ta3 rfl (fun w hw => cell_0 (Rd.flat ((fun _ hw => hz_1.sep hw) w hw) (rdl_some h366).2.2) rfl)) (S.qg rfl g363 (r_lss rfl rfl) (S.qg rfl g363 (r_move rfl) ?_)))))
                               iterate 9 refine S.skf rfl g369 ?_
                               refine S.qg rfl g363 (r_pick rfl rfl g369) (S.qg rfl g357 (r_pick rfl rfl g363) (S.qn rfl (r_pickf rfl rfl g357) (S.qn rfl (r_move rfl) ?_)))
                               iterate 6 refine S.skf rfl rfl ?_
                               refine S.sk rfl rfl rfl (wanted_undef rfl rfl rfl) ?_
                               refine S.sk rfl rfl rfl (wanted_undef rfl rfl rfl) ?_
                               refine S.skf rfl rfl (S.qn rfl (r_pick rfl rfl rfl) (S.nil (F.nil ?_)))
                               cases hE_13
                               refine Nrm.only [3, 4, 8, 20, 42, 392] rfl ?_
                               refine Nrm.pick [] rfl rfl ?_
                               exact hj_10 _ _ ⟨rfl, rfl⟩
                              ·replace hE_13 := if_ff g369 hE_13
                               obtain ⟨t372, h372, hE_13⟩ := bind_some hE_13
                               obtain ⟨t376, h376, hE_13⟩ := bind_some hE_13
                               rcases Bool.eq_false_or_eq_true (decide (t372 > t376)) with g382 | g382
                               ·replace hE_13 := if_tt g382 hE_13
                                refine Tri.drawA mixedT Sep.up [(0, true), (1, true), (2, true), (3, true), (4, true), (5, true), (6, true), (7, true), (8, true), (9, true), (10, true), (11, true), (12, true), (13, true), (14, true), (15, true), (16, true), (17, true), (18, true), (19, true), (20, true), (21, true), (22, true), (23, true), (24, true), (25, true), (26, true), (27, true), (28, true), (29, true), (30, true), (31, true), (32, true), (33, true), (34, true), (35, true), (36, true), (37, true), (38, true), (39, true), (40, true), (41, true), (42, true), (43, true), (44, true), (45, true), (46, true)] [] (by kernel_rfl) ?_
                                refine S.qn rfl (r_move rfl) ?_
                                refine S.qn rfl (r_not rfl) (S.qn rfl (r_move rfl) (S.qg rfl g348 (r_move rfl) (S.qg rfl g348 (r_move rfl) (S.qg rfl g348 (r_indexAddrS Try.underlying25 ti3 rfl hl_v76_1 rfl (rdl_some h351).1 (rdl_some h351).2.1) (S.qg rfl g348 (r_load ta3 rfl (fun w hw => cell_0 (Rd.flat ((fun _ hw => hz_5.sep hw) w hw) (rdl_some h351).2.2) rfl)) ?_)))))
                                refine S.qg rfl g348 (r_move rfl) (S.qg rfl g348 (r_len Try.underlying83 rfl hl_v51_1) (S.qg rfl g348 (r_geq rfl rfl) (S.qn rfl (r_pickf rfl rfl g348) (S.qn rfl (r_move rfl) (S.qg rfl g357 (r_move rfl) ?_)))))
                                refine S.qg rfl g357 (r_move rfl) (S.qg rfl g357 (r_indexAddrS Try.underlying25 ti3 rfl hl_v76_1 rfl (rdl_some h360).1 (rdl_some h360).2.1) (S.qg rfl g357 (r_load ta3 rfl (fun w hw => cell_0 (Rd.flat ((fun _ hw => hz_5.sep hw) w hw) (rdl_some h360).2.2) rfl)) (S.qg rfl g357 (r_geq rfl rfl) (S.qg rfl g357 (r_move rfl) (S.qg rfl g363 (r_move rfl) ?_)))))
                                refine S.qg rfl g363 (r_move rfl) (S.qg rfl g363 (r_indexAddrS Try.underlying25 ti3 rfl hl_v156_1 rfl (rdl_some h366).1 (rdl_some h366).2.1) (S.qg rfl g363 (r_load ta3 rfl (fun w hw => cell_0 (Rd.flat ((fun _ hw => hz_1.sep hw) w hw) (rdl_some h366).2.2) rfl)) (S.qg rfl g363 (r_lss rfl rfl) (S.qg rfl g363 (r_move rfl) (S.qg rfl g369 (r_move rfl) ?_)))))
                                refine S.qg rfl g369 (r_move rfl) (S.qg rfl g369 (r_indexAddrS Try.underlying25 ti3 rfl hl_v156_1 rfl (rdl_some h372).1 (rdl_some h372).2.1) (S.qg rfl g369 (r_load ta3 rfl (fun w hw => cell_0 (Rd.flat ((fun _ hw => hz_1.sep hw) w hw) (rdl_some h372).2.2) rfl)) (S.qg rfl g369 (r_move rfl) (S.qg rfl g369 (r_move rfl) (S.qg rfl g369 (r_indexAddrS Try.underlying25 ti3 rfl hl_v76_1 rfl (rdl_some h376).1 (rdl_some h376).2.1) ?_)))))
                                refine S.qg rfl g369 (r_load ta3 rfl (fun w hw => cell_0 (Rd.flat ((fun _ hw => hz_5.sep hw) w hw) (rdl_some h376).2.2) rfl)) (S.qg rfl g369 (r_gtr rfl rfl) (S.qg rfl g363 (r_pickf rfl rfl g369) (S.qg rfl g357 (r_pick rfl rfl g363) (S.qn rfl (r_pickf rfl rfl g357) (S.qn rfl (r_move rfl) ?_)))))
                                iterate 6 refine S.skf rfl g382 ?_
                                refine S.sk rfl rfl rfl (wanted_undef rfl rfl rfl) ?_
                                refine S.sk rfl rfl rfl (wanted_undef rfl rfl rfl) ?_
                                refine S.skf rfl g382 (S.qn rfl (r_pick rfl rfl g382) (S.nil (F.nil ?_)))
                                cases hE_13
                                refine Nrm.only [3, 4, 8, 20, 42, 392] rfl ?_
                                refine Nrm.pick [] rfl rfl ?_
                                exact hj_10 _ _ ⟨rfl, rfl⟩
                               ·replace hE_13 := if_ff g382 hE_13
                                obtain ⟨t385, h385, hE_13⟩ := bind_some hE_13
                                rcases Bool.eq_false_or_eq_true (decide (t385 ≥ 0)) with g388 | g388
                                ·replace hE_13 := if_tt g388 hE_13
                                 refine Tri.drawA mixedT Sep.up [(0, true), (1, true), (2, true), (3, true), (4, true), (5, true), (6, true), (7, true), (8, true), (9, true), (10, true), (11, true), (12, true), (13, true), (14, true), (15, true), (16, true), (17, true), (18, true), (19, true), (20, true), (21, true), (22, true), (23, true), (24, true), (25, true), (26, true), (27, true), (28, true), (29, true), (30, true), (31, true), (32, true), (33, true), (34, true), (35, true), (36, true), (37, true), (38, true), (39, true), (40, true), (41, true), (42, true), (43, true), (44, true), (45, true), (46, true)] [] (by kernel_rfl) ?_
                                 refine S.qn rfl (r_move rfl) (S.qn rfl (r_not rfl) (S.qn rfl (r_move rfl) (S.qg rfl g348 (r_move rfl) (S.qg rfl g348 (r_move rfl) ?_))))
                                 refine S.qg rfl g348 (r_indexAddrS Try.underlying25 ti3 rfl hl_v76_1 rfl (rdl_some h351).1 (rdl_some h351).2.1) (S.qg rfl g348 (r_load ta3 rfl (fun w hw => cell_0 (Rd.flat ((fun _ hw => hz_5.sep hw) w hw) (rdl_some h351).2.2) rfl)) (S.qg rfl g348 (r_move rfl) (S.qg rfl g348 (r_len Try.underlying83 rfl hl_v51_1) (S.qg rfl g348 (r_geq rfl rfl) (S.qn rfl (r_pickf rfl rfl g348) ?_)))))
                                 refine S.qn rfl (r_move rfl) (S.qg rfl g357 (r_move rfl) (S.qg rfl g357 (r_move rfl) (S.qg rfl g357 (r_indexAddrS Try.underlying25 ti3 rfl hl_v76_1 rfl (rdl_some h360).1 (rdl_some h360).2.1) (S.qg rfl g357 (r_load ta3 rfl (fun w hw => cell_0 (Rd.flat ((fun _ hw => hz_5.sep hw) w hw) (rdl_some h360).2.2) rfl)) (S.qg rfl g357 (r_geq rfl rfl) ?_)))))
                                 refine S.qg rfl g357 (r_move rfl) (S.qg rfl g363 (r_move rfl) (S.qg rfl g363 (r_move rfl) (S.qg rfl g363 (r_indexAddrS Try.underlying25 ti3 rfl hl_v156_1 rfl (rdl_some h366).1 (rdl_some h366).2.1) (S.qg rfl g363 (r_load ta3 rfl (fun w hw => cell_0 (Rd.flat ((fun _ hw => hz_1.sep hw) w hw) (rdl_some h366).2.2) rfl)) (S.qg rfl g363 (r_lss rfl rfl) ?_)))))
                                 refine S.qg rfl g363 (r_move rfl) (S.qg rfl g369 (r_move rfl) (S.qg rfl g369 (r_move rfl) (S.qg rfl g369 (r_indexAddrS Try.underlying25 ti3 rfl hl_v156_1 rfl (rdl_some h372).1 (rdl_some h372).2.1) (S.qg rfl g369 (r_load ta3 rfl (fun w hw => cell_0 (Rd.flat ((fun _ hw => hz_1.sep hw) w hw) (rdl_some h372).2.2) rfl)) (S.qg rfl g369 (r_move rfl) ?_)))))
                                 refine S.qg rfl g369 (r_move rfl) (S.qg rfl g369 (r_indexAddrS Try.underlying25 ti3 rfl hl_v76_1 rfl (rdl_some h376).1 (rdl_some h376).2.1) (S.qg rfl g369 (r_load ta3 rfl (fun w hw => cell_0 (Rd.flat ((fun _ hw => hz_5.sep hw) w hw) (rdl_some h376).2.2) rfl)) (S.qg rfl g369 (r_gtr rfl rfl) (S.qg rfl g363 (r_pickf rfl rfl g369) (S.qg rfl g357 (r_pick rfl rfl g363) ?_)))))
                                 refine S.qn rfl (r_pickf rfl rfl g357) (S.qn rfl (r_move rfl) (S.qg rfl g382 (r_move rfl) (S.qg rfl g382 (r_move rfl) (S.qg rfl g382 (r_indexAddrS Try.underlying25 ti3 rfl hl_v156_1 rfl (rdl_some h385).1 (rdl_some h385).2.1) (S.qg rfl g382 (r_load ta3 rfl (fun w hw => cell_0 (Rd.flat ((fun _ hw => hz_1.sep hw) w hw) (rdl_some h385).2.2) rfl)) ?_)))))
                                 refine S.qg rfl g382 (r_geq rfl rfl) (S.qg rfl g382 (r_move rfl) (S.qg rfl g388 (r_move rfl) (S.qg rfl g388 (r_not rfl) (S.qg rfl g382 (r_pick rfl rfl g388) (S.qn rfl (r_pickf rfl rfl g382) (S.nil (F.nil ?_)))))))
                                 cases hE_13
                                 refine Nrm.only [3, 4, 8, 20, 42, 392] rfl ?_
                                 refine Nrm.pick [] rfl rfl ?_
                                 exact hj_10 _ _ ⟨rfl, rfl⟩
                                ·replace hE_13 := if_ff g388 hE_13
                                 refine Tri.drawA mixedT Sep.up [(0, true), (1, true), (2, true), (3, true), (4, true), (5, true), (6, true), (7, true), (8, true), (9, true), (10, true), (11, true), (12, true), (13, true), (14, true), (15, true), (16, true), (17, true), (18, true), (19, true), (20, true), (21, true), (22, true), (23, true), (24, true), (25, true), (26, true), (27, true), (28, true), (29, true), (30, true), (31, true), (32, true), (33, true), (34, true), (35, true), (36, true), (37, true), (38, true), (39, true), (40, true), (41, true), (42, true), (43, true), (44, true), (45, true), (46, true)] [] (by kernel_rfl) ?_
                                 refine S.qn rfl (r_move rfl) (S.qn rfl (r_not rfl) (S.qn rfl (r_move rfl) (S.qg rfl g348 (r_move rfl) (S.qg rfl g348 (r_move rfl) ?_))))
                                 refine S.qg rfl g348 (r_indexAddrS Try.underlying25 ti3 rfl hl_v76_1 rfl (rdl_some h351).1 (rdl_some h351).2.1) (S.qg rfl g348 (r_load ta3 rfl (fun w hw => cell_0 (Rd.flat ((fun _ hw => hz_5.sep hw) w hw) (rdl_some h351).2.2) rfl)) (S.qg rfl g348 (r_move rfl) (S.qg rfl g348 (r_len Try.underlying83 rfl hl_v51_1) (S.qg rfl g348 (r_geq rfl rfl) (S.qn rfl (r_pickf rfl rfl g348) ?_)))))
                                 refine S.qn rfl (r_move rfl) (S.qg rfl g357 (r_move rfl) (S.qg rfl g357 (r_move rfl) (S.qg rfl g357 (r_indexAddrS Try.underlying25 ti3 rfl hl_v76_1 rfl (rdl_some h360).1 (rdl_some h360).2.1) (S.qg rfl g357 (r_load ta3 rfl (fun w hw => cell_0 (Rd.flat ((fun _ hw => hz_5.sep hw) w hw) (rdl_some h360).2.2) rfl)) (S.qg rfl g357 (r_geq rfl rfl) ?_)))))
                                 refine S.qg rfl g357 (r_move rfl) (S.qg rfl g363 (r_move rfl) (S.qg rfl g363 (r_move rfl) (S.qg rfl g363 (r_indexAddrS Try.underlying25 ti3 rfl hl_v156_1 rfl (rdl_some h366).1 (rdl_some h366).2.1) (S.qg rfl g363 (r_load ta3 rfl (fun w hw => cell_0 (Rd.flat ((fun _ hw => hz_1.sep hw) w hw) (rdl_some h366).2.2) rfl)) (S.qg rfl g363 (r_lss rfl rfl) ?_)))))
                                 refine S.qg rfl g363 (r_move rfl) (S.qg rfl g369 (r_move rfl) (S.qg rfl g369 (r_move rfl) (S.qg rfl g369 (r_indexAddrS Try.underlying25 ti3 rfl hl_v156_1 rfl (rdl_some h372).1 (rdl_some h372).2.1) (S.qg rfl g369 (r_load ta3 rfl (fun w hw => cell_0 (Rd.flat ((fun _ hw => hz_1.sep hw) w hw) (rdl_some h372).2.2) rfl)) (S.qg rfl g369 (r_move rfl) ?_)))))
                                 refine S.qg rfl g369 (r_move rfl) (S.qg rfl g369 (r_indexAddrS Try.underlying25 ti3 rfl hl_v76_1 rfl (rdl_some h376).1 (rdl_some h376).2.1) (S.qg rfl g369 (r_load ta3 rfl (fun w hw => cell_0 (Rd.flat ((fun _ hw => hz_5.sep hw) w hw) (rdl_some h376).2.2) rfl)) (S.qg rfl g369 (r_gtr rfl rfl) (S.qg rfl g363 (r_pickf rfl rfl g369) (S.qg rfl g357 (r_pick rfl rfl g363) ?_)))))
                                 refine S.qn rfl (r_pickf rfl rfl g357) (S.qn rfl (r_move rfl) (S.qg rfl g382 (r_move rfl) (S.qg rfl g382 (r_move rfl) (S.qg rfl g382 (r_indexAddrS Try.underlying25 ti3 rfl hl_v156_1 rfl (rdl_some h385).1 (rdl_some h385).2.1) (S.qg rfl g382 (r_load ta3 rfl (fun w hw => cell_0 (Rd.flat ((fun _ hw => hz_1.sep hw) w hw) (rdl_some h385).2.2) rfl)) ?_)))))
                                 refine S.qg rfl g382 (r_geq rfl rfl) (S.qg rfl g382 (r_move rfl) (S.skf rfl g388 (S.skf rfl g388 (S.qg rfl g382 (r_pickf rfl rfl g388) (S.qn rfl (r_pickf rfl rfl g382) (S.nil (F.nil ?_)))))))
                                 cases hE_13
                                 refine Nrm.only [3, 4, 8, 20, 42, 392] rfl ?_
                                 refine Nrm.pick [] rfl rfl ?_
                                 exact hj_10 _ _ ⟨rfl, rfl⟩
                             ·replace hE_13 := if_ff g363 hE_13
                              obtain ⟨t385, h385, hE_13⟩ := bind_some hE_13
                              rcases Bool.eq_false_or_eq_true (decide (t385 ≥ 0)) with g388 | g388
                              ·replace hE_13 := if_tt g388 hE_13
                               refine Tri.drawA mixedT Sep.up [(0, true), (1, true), (2, true), (3, true), (4, true), (5, true), (6, true), (7, true), (8, true), (9, true), (10, true), (11, true), (12, true), (13, true), (14, true), (15, true), (16, true), (17, true), (18, true), (19, true), (20, true), (21, true), (22, true), (23, true), (24, true), (25, true), (26, true), (27, true), (28, true), (29, true), (30, true), (31, true), (32, true), (33, true), (34, true), (35, true), (36, true), (37, true), (38, true), (39, true), (40, true), (41, true), (42, true), (43, true), (44, true), (45, true), (46, true)] [] (by kernel_rfl) ?_
                               refine S.qn rfl (r_move rfl) (S.qn rfl (r_not rfl) (S.qn rfl (r_move rfl) (S.qg rfl g348 (r_move rfl) (S.qg rfl g348 (r_move rfl) (S.qg rfl g348 (r_indexAddrS Try.underlying25 ti3 rfl hl_v76_1 rfl (rdl_some h351).1 (rdl_some h351).2.1) ?_)))))
                               refine S.qg rfl g348 (r_load ta3 rfl (fun w hw => cell_0 (Rd.flat ((fun _ hw => hz_5.sep hw) w hw) (rdl_some h351).2.2) rfl)) (S.qg rfl g348 (r_move rfl) (S.qg rfl g348 (r_len Try.underlying83 rfl hl_v51_1) (S.qg rfl g348 (r_geq rfl rfl) (S.qn rfl (r_pickf rfl rfl g348) (S.qn rfl (r_move rfl) ?_)))))
                               refine S.qg rfl g357 (r_move rfl) (S.qg rfl g357 (r_move rfl) (S.qg rfl g357 (r_indexAddrS Try.underlying25 ti3 rfl hl_v76_1 rfl (rdl_some h360).1 (rdl_some h360).2.1) (S.qg rfl g357 (r_load ta3 rfl (fun w hw => cell_0 (Rd.flat ((fun _ hw => hz_5.sep hw) w hw) (rdl_some h360).2.2) rfl)) (S.qg rfl g357 (r_geq rfl rfl) (S.qg rfl g357 (r_move rfl) ?_)))))
                               iterate 6 refine S.skf rfl g363 ?_
                               iterate 9 refine S.sk rfl rfl rfl (wanted_undef rfl rfl rfl) ?_
                               refine S.skf rfl g363 (S.qg rfl g357 (r_pickf rfl rfl g363) ?_)
                               refine S.qn rfl (r_pickf rfl rfl g357) (S.qn rfl (r_move rfl) (S.qg rfl rfl (r_move rfl) (S.qg rfl rfl (r_move rfl) (S.qg rfl rfl (r_indexAddrS Try.underlying25 ti3 rfl hl_v156_1 rfl (rdl_some h385).1 (rdl_some h385).2.1) (S.qg rfl rfl (r_load ta3 rfl (fun w hw => cell_0 (Rd.flat ((fun _ hw => hz_1.sep hw) w hw) (rdl_some h385).2.2) rfl)) ?_)))))
                               refine S.qg rfl rfl (r_geq rfl rfl) (S.qg rfl rfl (r_move rfl) (S.qg rfl g388 (r_move rfl) (S.qg rfl g388 (r_not rfl) (S.qg rfl rfl (r_pick rfl rfl g388) (S.qn rfl (r_pickf rfl rfl rfl) (S.nil (F.nil ?_)))))))
                               cases hE_13
                               refine Nrm.only [3, 4, 8, 20, 42, 392] rfl ?_
                               refine Nrm.pick [] rfl rfl ?_
                               exact hj_10 _ _ ⟨rfl, rfl⟩
                              ·replace hE_13 := if_ff g388 hE_13
                               refine Tri.drawA mixedT Sep.up [(0, true), (1, true), (2, true), (3, true), (4, true), (5, true), (6, true), (7, true), (8, true), (9, true), (10, true), (11, true), (12, true), (13, true), (14, true), (15, true), (16, true), (17, true), (18, true), (19, true), (20, true), (21, true), (22, true), (23, true), (24, true), (25, true), (26, true), (27, true), (28, true), (29, true), (30, true), (31, true), (32, true), (33, true), (34, true), (35, true), (36, true), (37, true), (38, true), (39, true), (40, true), (41, true), (42, true), (43, true), (44, true), (45, true), (46, true)] [] (by kernel_rfl) ?_
                               refine S.qn rfl (r_move rfl) (S.qn rfl (r_not rfl) (S.qn rfl (r_move rfl) (S.qg rfl g348 (r_move rfl) (S.qg rfl g348 (r_move rfl) (S.qg rfl g348 (r_indexAddrS Try.underlying25 ti3 rfl hl_v76_1 rfl (rdl_some h351).1 (rdl_some h351).2.1) ?_)))))
                               refine S.qg rfl g348 (r_load ta3 rfl (fun w hw => cell_0 (Rd.flat ((fun _ hw => hz_5.sep hw) w hw) (rdl_some h351).2.2) rfl)) (S.qg rfl g348 (r_move rfl) (S.qg rfl g348 (r_len Try.underlying83 rfl hl_v51_1) (S.qg rfl g348 (r_geq rfl rfl) (S.qn rfl (r_pickf rfl rfl g348) (S.qn rfl (r_move rfl) ?_)))))
                               refine S.qg rfl g357 (r_move rfl) (S.qg rfl g357 (r_move rfl) (S.qg rfl g357 (r_indexAddrS Try.underlying25 ti3 rfl hl_v76_1 rfl (rdl_some h360).1 (rdl_some h360).2.1) (S.qg rfl g357 (r_load ta3 rfl (fun w hw => cell_0 (Rd.flat ((fun _ hw => hz_5.sep hw) w hw) (rdl_some h360).2.2) rfl)) (S.qg rfl g357 (r_geq rfl rfl) (S.qg rfl g357 (r_move rfl) ?_)))))
                               iterate 6 refine S.skf rfl g363 ?_
                               iterate 9 refine S.sk rfl rfl rfl (wanted_undef rfl rfl rfl) ?_
                               refine S.skf rfl g363 (S.qg rfl g357 (r_pickf rfl rfl g363) ?_)
                               refine S.qn rfl (r_pickf rfl rfl g357) (S.qn rfl (r_move rfl) (S.qg rfl rfl (r_move rfl) (S.qg rfl rfl (r_move rfl) (S.qg rfl rfl (r_indexAddrS Try.underlying25 ti3 rfl hl_v156_1 rfl (rdl_some h385).1 (rdl_some h385).2.1) (S.qg rfl rfl (r_load ta3 rfl (fun w hw => cell_0 (Rd.flat ((fun _ hw => hz_1.sep hw) w hw) (rdl_some h385).2.2) rfl)) ?_)))))
                               refine S.qg rfl rfl (r_geq rfl rfl) (S.qg rfl rfl (r_move rfl) (S.skf rfl g388 (S.skf rfl g388 (S.qg rfl rfl (r_pickf rfl rfl g388) (S.qn rfl (r_pickf rfl rfl rfl) (S.nil (F.nil ?_)))))))
                               cases hE_13
                               refine Nrm.only [3, 4, 8, 20, 42, 392] rfl ?_
                               refine Nrm.pick [] rfl rfl ?_
                               exact hj_10 _ _ ⟨rfl, rfl⟩
                         ·replace hE_12 := if_ff g_16 hE_12
                          refine Tri.exit ?_
                          refine Exi.then ?_
                          refine Exi.then ?_
                          refine Exi.same ?_
                          cases hE_12
                          replace h := Lr_inl h
                          refine Nrm.seq (Tri.seq (Tri.reg (l := [0]) rfl ?_))
                          refine F.qn rfl (r_assign rfl) (F.nil (Nrm.seq (Tri.ret ?_)))
                          cases h
                          exact Rtn.body (.tmp rfl .nil) (fun w hw => ⟨rfl, hfz.trans (hw.ext)⟩)
                   ·rcases Bool.eq_false_or_eq_true (!t263_2) with g268 | g268
                    ·replace hE_9 := if_tt g268 hE_9
                     refine Tri.drawA mixedT Sep.up [(0, true), (1, true), (2, true), (3, true), (4, true), (5, true), (6, true), (7, true), (8, true), (9, true), (10, true), (11, true), (12, true), (13, true), (14, true), (15, true), (16, true), (17, true), (18, true), (19, true), (20, true), (21, true), (22, true), (23, true), (24, true), (25, true)] [] (by kernel_rfl) ?_
                     refine S.qn rfl (r_move rfl) (S.qn rfl (r_not rfl) (S.qn rfl (r_move rfl) ?_))
                     iterate 11 refine S.skf rfl g268 ?_
                     refine S.qn rfl (r_pick rfl rfl g268) (S.qn rfl (r_move rfl) ?_)
                     iterate 6 refine S.skf rfl rfl ?_
                     refine S.sk rfl rfl rfl (wanted_undef rfl rfl rfl) ?_
                     refine S.sk rfl rfl rfl (wanted_undef rfl rfl rfl) ?_
                     refine S.skf rfl rfl (S.qn rfl (r_pick rfl rfl rfl) (S.nil (F.nil ?_)))
                     cases hE_9
                     refine Nrm.only [3, 4, 5, 8, 20, 291] rfl ?_
                     refine Nrm.pick [2, 3, 7, 8, 9, 10] rfl rfl ?_
                     exact hj_9 _ _ ⟨rfl, rfl⟩
                    ·replace hE_9 := if_ff g268 hE_9
                     obtain ⟨t271, h271, hE_9⟩ := bind_some hE_9
                     obtain ⟨t277, h277, hE_9⟩ := bind_some hE_9
                     rcases Bool.eq_false_or_eq_true (t271 != t277) with g281 | g281
                     ·replace hE_9 := if_tt g281 hE_9
                      refine Tri.drawA mixedT Sep.up [(0, true), (1, true), (2, true), (3, true), (4, true), (5, true), (6, true), (7, true), (8, true), (9, true), (10, true), (11, true), (12, true), (13, true), (14, true), (15, true), (16, true), (17, true), (18, true), (19, true), (20, true), (21, true), (22, true), (23, true), (24, true), (25, true)] [] (by kernel_rfl) ?_
                      refine S.qn rfl (r_move rfl) (S.qn rfl (r_not rfl) (S.qn rfl (r_move rfl) (S.qg rfl g268 (r_move rfl) ?_)))
                      refine S.qg rfl g268 (r_move rfl) (S.qg rfl g268 (r_indexAddrS Try.underlying25 ti3 rfl hl_v263_1 rfl (rdl_some h271).1 (rdl_some h271).2.1) (S.qg rfl g268 (r_load ta3 rfl (fun w hw => cell_0 (Rd.flat ((rd_sl (i := 0) rfl) w hw) (rdl_some h271).2.2) rfl)) (S.qg rfl g268 (r_move rfl) (S.qg rfl g268 (r_move rfl) (S.qg rfl g268 (r_len Try.underlying25 rfl hl_v212_1) ?_)))))
                      refine S.qg rfl g268 (r_sub rfl rfl) (S.qg rfl g268 (r_indexAddrS Try.underlying25 ti3 rfl hl_v212_1 rfl (rdl_some h277).1 (rdl_some h277).2.1) (S.qg rfl g268 (r_load ta3 rfl (fun w hw => cell_0 (Rd.flat ((rd_sl (i := 6) rfl) w hw) (rdl_some h277).2.2) rfl)) (S.qg rfl g268 (r_neq rfl rfl) (S.qn rfl (r_pickf rfl rfl g268) (S.qn rfl (r_move rfl) ?_)))))
                      iterate 6 refine S.skf rfl g281 ?_
                      refine S.sk rfl rfl rfl (wanted_undef rfl rfl rfl) ?_
                      refine S.sk rfl rfl rfl (wanted_undef rfl rfl rfl) ?_
                      refine S.skf rfl g281 (S.qn rfl (r_pick rfl rfl g281) (S.nil (F.nil ?_)))
                      cases hE_9
                      refine Nrm.only [3, 4, 5, 8, 20, 291] rfl ?_
                      refine Nrm.pick [2, 3, 7, 8, 9, 10] rfl rfl ?_
                      exact hj_9 _ _ ⟨rfl, rfl⟩
                     ·replace hE_9 := if_ff g281 hE_9
                      obtain ⟨t284, h284, hE_9⟩ := bind_some hE_9
                      rcases Bool.eq_false_or_eq_true (decide (t284 ≥ 0)) with g287 | g287
                      ·replace hE_9 := if_tt g287 hE_9
                       refine Tri.drawA mixedT Sep.up [(0, true), (1, true), (2, true), (3, true), (4, true), (5, true), (6, true), (7, true), (8, true), (9, true), (10, true), (11, true), (12, true), (13, true), (14, true), (15, true), (16, true), (17, true), (18, true), (19, true), (20, true), (21, true), (22, true), (23, true), (24, true), (25, true)] [] (by kernel_rfl) ?_
                       refine S.qn rfl (r_move rfl) (S.qn rfl (r_not rfl) ?_)
                       refine S.qn rfl (r_move rfl) (S.qg rfl g268 (r_move rfl) (S.qg rfl g268 (r_move rfl) (S.qg rfl g268 (r_indexAddrS Try.underlying25 ti3 rfl hl_v263_1 rfl (rdl_some h271).1 (rdl_some h271).2.1) (S.qg rfl g268 (r_load ta3 rfl (fun w hw => cell_0 (Rd.flat ((rd_sl (i := 0) rfl) w hw) (rdl_some h271).2.2) rfl)) (S.qg rfl g268 (r_move rfl) ?_)))))
                       refine S.qg rfl g268 (r_move rfl) (S.qg rfl g268 (r_len Try.underlying25 rfl hl_v212_1) (S.qg rfl g268 (r_sub rfl rfl) (S.qg rfl g268 (r_indexAddrS Try.underlying25 ti3 rfl hl_v212_1 rfl (rdl_some h277).1 (rdl_some h277).2.1) (S.qg rfl g268 (r_load ta3 rfl (fun w hw => cell_0 (Rd.flat ((rd_sl (i := 6) rfl) w hw) (rdl_some h277).2.2) rfl)) (S.qg rfl g268 (r_neq rfl rfl) ?_)))))
                       refine S.qn rfl (r_pickf rfl rfl g268) (S.qn rfl (r_move rfl) (S.qg rfl g281 (r_move rfl) (S.qg rfl g281 (r_move rfl) (S.qg rfl g281 (r_indexAddrS Try.underlying25 ti3 rfl hl_v263_1 rfl (rdl_some h284).1 (rdl_some h284).2.1) (S.qg rfl g281 (r_load ta3 rfl (fun w hw => cell_0 (Rd.flat ((rd_sl (i := 0) rfl) w hw) (rdl_some h284).2.2) rfl)) ?_)))))
                       refine S.qg rfl g281 (r_geq rfl rfl) (S.qg rfl g281 (r_move rfl) (S.qg rfl g287 (r_move rfl) (S.qg rfl g287 (r_not rfl) (S.qg rfl g281 (r_pick rfl rfl g287) (S.qn rfl (r_pickf rfl rfl g281) (S.nil (F.nil ?_)))))))
                       cases hE_9
                       refine Nrm.only [3, 4, 5, 8, 20, 291] rfl ?_
                       refine Nrm.pick [2, 3, 7, 8, 9, 10] rfl rfl ?_
                       exact hj_9 _ _ ⟨rfl, rfl⟩
                      ·replace hE_9 := if_ff g287 hE_9
                       refine Tri.drawA mixedT Sep.up [(0, true), (1, true), (2, true), (3, true), (4, true), (5, true), (6, true), (7, true), (8, true), (9, true), (10, true), (11, true), (12, true), (13, true), (14, true), (15, true), (16, true), (17, true), (18, true), (19, true), (20, true), (21, true), (22, true), (23, true), (24, true), (25, true)] [] (by kernel_rfl) ?_
                       refine S.qn rfl (r_move rfl) (S.qn rfl (r_not rfl) ?_)
                       refine S.qn rfl (r_move rfl) (S.qg rfl g268 (r_move rfl) (S.qg rfl g268 (r_move rfl) (S.qg rfl g268 (r_indexAddrS Try.underlying25 ti3 rfl hl_v263_1 rfl (rdl_some h271).1 (rdl_some h271).2.1) (S.qg rfl g268 (r_load ta3 rfl (fun w hw => cell_0 (Rd.flat ((rd_sl (i := 0) rfl) w hw) (rdl_some h271).2.2) rfl)) (S.qg rfl g268 (r_move rfl) ?_)))))
                       refine S.qg rfl g268 (r_move rfl) (S.qg rfl g268 (r_len Try.underlying25 rfl hl_v212_1) (S.qg rfl g268 (r_sub rfl rfl) (S.qg rfl g268 (r_indexAddrS Try.underlying25 ti3 rfl hl_v212_1 rfl (rdl_some h277).1 (rdl_some h277).2.1) (S.qg rfl g268 (r_load ta3 rfl (fun w hw => cell_0 (Rd.flat ((rd_sl (i := 6) rfl) w hw) (rdl_some h277).2.2) rfl)) (S.qg rfl g268 (r_neq rfl rfl) ?_)))))
                       refine S.qn rfl (r_pickf rfl rfl g268) (S.qn rfl (r_move rfl) (S.qg rfl g281 (r_move rfl) (S.qg rfl g281 (r_move rfl) (S.qg rfl g281 (r_indexAddrS Try.underlying25 ti3 rfl hl_v263_1 rfl (rdl_some h284).1 (rdl_some h284).2.1) (S.qg rfl g281 (r_load ta3 rfl (fun w hw => cell_0 (Rd.flat ((rd_sl (i := 0) rfl) w hw) (rdl_some h284).2.2) rfl)) ?_)))))
                       refine S.qg rfl g281 (r_geq rfl rfl) (S.qg rfl g281 (r_move rfl) (S.skf rfl g287 (S.skf rfl g287 (S.qg rfl g281 (r_pickf rfl rfl g287) (S.qn rfl (r_pickf rfl rfl g281) (S.nil (F.nil ?_)))))))
                       cases hE_9
                       refine Nrm.only [3, 4, 5, 8, 20, 291] rfl ?_
                       refine Nrm.pick [2, 3, 7, 8, 9, 10] rfl rfl ?_
                       exact hj_9 _ _ ⟨rfl, rfl⟩
                  ·replace h := if_ff g_10 h
                   refine Tri.skip (Nrm.seq (Tri.seq (Tri.seq (Tri.reg (l := [0, 1]) rfl ?_))))
                   refine F.qn rfl (r_move rfl) (F.qn rfl (r_not rfl) (F.nil (Nrm.seq (Tri.cond (b := !t51_2) rfl (fun g_18 => ?_) (fun g_18 => ?_)))))
                   ·replace h := if_tt g_18 h
                    refine Tri.seq (Tri.reg (l := [0]) rfl ?_)
                    refine F.qn rfl (r_assign rfl) (F.nil (Nrm.seq (Tri.ret ?_)))
                    refine Rtn.then ?_
                    cases h
                    exact Rtn.body (.tmp rfl .nil) (fun w hw => ⟨rfl, hw.ext⟩)
                   ·replace h := if_ff g_18 h
                    refine Tri.skip (Nrm.seq (Tri.seq (Tri.seq (Tri.reg (l := [0]) rfl ?_))))
                    refine F.qn rfl (r_assign rfl) (F.nil (Nrm.seq (Tri.freeze (fun w hwz => ?_))))
                    have hfz := hwz.ext
                    have hbz_b24_1 := box_cells (i := 0) rfl w hwz
                    have hbz_b3_1 := box_cells (i := 1) rfl w hwz
                    have hz_2 : Rd w v156_1 (t156_1 : List (Int)) := rd_sl (i := 2) rfl w hwz
                    have hz_3 : Rd w v180_1 (t180_1 : List (Int × List (Int × Int × Int) × List Int)) := rd_sl (i := 3) rfl w hwz
                    have hz_4 : Rd w v180_2 (t180_2 : List (List Int)) := rd_sl (i := 4) rfl w hwz
                    have hz_5 : Rd w v212_1 (t212_1 : List (Int)) := rd_sl (i := 5) rfl w hwz
                    have hz_6 : Rd w v48_1 (t48_1 : List (Int × List (Int × Int × Int) × List Int)) := rd_sl (i := 6) rfl w hwz
                    have hz_7 : Rd w v48_2 (t48_2 : List (List Int)) := rd_sl (i := 7) rfl w hwz
                    have hz_8 : Rd w v51_1 (t51_1 : List (List Int)) := rd_sl (i := 8) rfl w hwz
                    have hz_9 : Rd w v76_1 (t76_1 : List (Int)) := rd_sl (i := 9) rfl w hwz
                    obtain ⟨s3, hE_14, h⟩ := bind_some h
                    refine Tri.block ?_
                    refine Tri.only [3, 4, 8, 20, 40] rfl ?_
                    refine Tri.pick [] rfl rfl ?_
                    refine Tri.rounds (fun n e' C' => ∃ (x40r' : Int), laws_FnWorlds.l3 k t51_1 n x40r' = some s3 ∧ e' = [(3, .pointer (some ⟨b3_1, 0, none⟩)), (4, v51_1), (8, v76_1), (20, v156_1), (40, .int .i64 x40r')] ∧ C' = Sep w noM []) k ?_ ?_ ?_
                    ·exact ⟨1, hE_14, rfl, rfl⟩
                    ·rintro _ _ ⟨_, hE_14, _⟩
                     rw [laws_FnWorlds.l3.eq_1] at hE_14; cases hE_14
                    ·rintro n_4 _ _ ⟨x40r, hE_14, rfl, rfl⟩ ih_4
                     rw [laws_FnWorlds.l3.eq_2] at hE_14
                     refine Tri.seq (Tri.seq (Tri.reg (l := [0, 1, 2, 3]) rfl ?_))
                     refine F.qn rfl (r_move rfl) (F.qn rfl (r_move rfl) (F.qn rfl (r_len Try.underlying83 rfl hl_v51_1) (F.qn rfl (r_lss rfl rfl) (F.nil (Nrm.seq (Tri.cond (b := decide (x40r < (t51_1.length : Int))) rfl (fun g_19 => ?_) (fun g_19 => ?_)))))))
                     ·replace hE_14 := if_tt g_19 hE_14
                      refine Tri.skip (Nrm.seq (Tri.seq (Tri.block ?_)))
                      refine Tri.seq (Tri.reg (l := [0]) rfl ?_)
                      refine F.qn rfl (r_assign rfl) (F.nil (Nrm.seq ?_))
                      obtain ⟨s4, hE_15, hE_14⟩ := bind_some hE_14
                      refine Tri.block ?_
                      refine Tri.only [3, 4, 8, 20, 40, 41] rfl ?_
                      refine Tri.pick [] rfl rfl ?_
                      refine Tri.rounds (fun n e' C' => ∃ (x41r' : Int), laws_FnWorlds.l4 k t51_1 x40r n x41r' = some s4 ∧ e' = [(3, .pointer (some ⟨b3_1, 0, none⟩)), (4, v51_1), (8, v76_1), (20, v156_1), (40, .int .i64 x40r), (41, .int .i64 x41r')] ∧ C' = Sep w noM []) k ?_ ?_ ?_
                      ·exact ⟨0, hE_15, rfl, rfl⟩
                      ·rintro _ _ ⟨_, hE_15, _⟩
                       rw [laws_FnWorlds.l4.eq_1] at hE_15; cases hE_15
                      ·rintro n_5 _ _ ⟨x41r, hE_15, rfl, rfl⟩ ih_5
                       rw [laws_FnWorlds.l4.eq_2] at hE_15
                       refine Tri.seq (Tri.seq ?_)
                       obtain ⟨t303, h303, hE_15⟩ := bind_some hE_15
                       obtain ⟨_, hc303, hp303⟩ := Rd.elem hz_8 (rdl_some h303).2.2
                       obtain ⟨v303_0, rfl, hr_v303_0⟩ := op25 hp303
                       have hl_v303_0 := hr_v303_0.len
                       refine Tri.reg (l := [0, 1, 2, 3, 4, 5, 6]) rfl ?_
                       iterate 3 refine F.qn rfl (r_move rfl) ?_
                       refine F.qn rfl (r_indexAddrS Try.underlying83 ti25 rfl hl_v51_1 rfl (rdl_some h303).1 (rdl_some h303).2.1) (F.qn rfl (r_load ta25 rfl (fun w hw => cell_0 (hc303.sep hw) rfl)) (F.qn rfl (r_len Try.underlying25 rfl hl_v303_0) (F.qn rfl (r_lss rfl rfl) (F.nil (Nrm.seq (Tri.cond (b := decide (x41r < (t303.length : Int))) rfl (fun g_20 => ?_) (fun g_20 => ?_)))))))
                       ·replace hE_15 := if_tt g_20 hE_15
                        refine Tri.skip (Nrm.seq (Tri.seq (Tri.block ?_)))
                        refine Tri.seq ?_
                        obtain ⟨t311, h311, hE_15⟩ := bind_some hE_15
                        obtain ⟨_, hc311, hp311⟩ := Rd.elem hz_8 (rdl_some h311).2.2
                        obtain ⟨v311_0, rfl, hr_v311_0⟩ := op25 hp311
                        have hl_v311_0 := hr_v311_0.len
                        obtain ⟨t314, h314, hE_15⟩ := bind_some hE_15
                        obtain ⟨t319, h319, hE_15⟩ := bind_some hE_15
                        obtain ⟨_, hc319, hp319⟩ := Rd.elem hz_8 (rdl_some h319).2.2
                        obtain ⟨v319_0, rfl, hr_v319_0⟩ := op25 hp319
                        have hl_v319_0 := hr_v319_0.len
                        obtain ⟨t322, h322, hE_15⟩ := bind_some hE_15
                        obtain ⟨t328, h328, hE_15⟩ := bind_some hE_15
                        obtain ⟨_, hc328, hp328⟩ := Rd.elem hz_8 (rdl_some h328).2.2
                        obtain ⟨v328_0, rfl, hr_v328_0⟩ := op25 hp328
                        have hl_v328_0 := hr_v328_0.len
                        obtain ⟨t331, h331, hE_15⟩ := bind_some hE_15
                        refine Tri.drawA mixedT Sep.up [(0, true), (1, true), (2, true), (3, true), (4, true), (5, true), (6, true), (7, true), (8, true), (9, true), (10, true), (11, true), (12, true), (13, true), (14, true), (15, true), (16, true), (17, true), (18, true), (19, true), (20, true), (21, true), (22, true), (23, true), (24, true)] [] (by kernel_rfl) ?_
                        refine S.qn rfl (r_move rfl) ?_
                        refine S.qn rfl (r_move rfl) (S.qn rfl (r_indexAddrS Try.underlying83 ti25 rfl hl_v51_1 rfl (rdl_some h311).1 (rdl_some h311).2.1) (S.qn rfl (r_load ta25 rfl (fun w hw => cell_0 (hc311.sep hw) rfl)) (S.qn rfl (r_move rfl) (S.qn rfl (r_indexAddrS Try.underlying25 ti3 rfl hl_v311_0 rfl (rdl_some h314).1 (rdl_some h314).2.1) (S.qn rfl (r_load ta3 rfl (fun w hw => cell_0 (Rd.flat ((fun _ hw => hr_v311_0.sep hw) w hw) (rdl_some h314).2.2) rfl)) ?_)))))
                        refine S.qn rfl (r_move rfl) (S.qn rfl (r_move rfl) (S.qn rfl (r_sub rfl rfl) (S.qn rfl (r_indexAddrS Try.underlying83 ti25 rfl hl_v51_1 rfl (rdl_some h319).1 (rdl_some h319).2.1) (S.qn rfl (r_load ta25 rfl (fun w hw => cell_0 (hc319.sep hw) rfl)) (S.qn rfl (r_move rfl) ?_)))))
                        refine S.qn rfl (r_indexAddrS Try.underlying25 ti3 rfl hl_v319_0 rfl (rdl_some h322).1 (rdl_some h322).2.1) (S.qn rfl (r_load ta3 rfl (fun w hw => cell_0 (Rd.flat ((fun _ hw => hr_v319_0.sep hw) w hw) (rdl_some h322).2.2) rfl)) (S.qn rfl (r_and rfl rfl) (S.qn rfl (r_move rfl) (S.qn rfl (r_move rfl) (S.qn rfl (r_sub rfl rfl) ?_)))))
                        refine S.qn rfl (r_indexAddrS Try.underlying83 ti25 rfl hl_v51_1 rfl (rdl_some h328).1 (rdl_some h328).2.1) (S.qn rfl (r_load ta25 rfl (fun w hw => cell_0 (hc328.sep hw) rfl)) (S.qn rfl (r_move rfl) (S.qn rfl (r_indexAddrS Try.underlying25 ti3 rfl hl_v328_0 rfl (rdl_some h331).1 (rdl_some h331).2.1) (S.qn rfl (r_load ta3 rfl (fun w hw => cell_0 (Rd.flat ((fun _ hw => hr_v328_0.sep hw) w hw) (rdl_some h331).2.2) rfl)) (S.qn rfl (r_neq rfl rfl) (S.nil (F.nil (Nrm.seq (Tri.cond (b := (band t314 t322) != t331) rfl (fun g_21 => ?_) (fun g_21 => ?_))))))))))
                        ·replace hE_15 := if_tt g_21 hE_15
                         refine Tri.seq (Tri.reg (l := [0]) rfl ?_)
                         refine F.qn rfl (r_assign rfl) (F.nil (Nrm.seq (Tri.ret ?_)))
                         refine Rtn.block ?_
                         refine Rtn.then ?_
                         refine Rtn.then ?_
                         refine Rtn.block ?_
                         refine Rtn.block ?_
                         refine Rtn.then ?_
                         refine Rtn.then ?_
                         refine Rtn.block ?_
                         refine Rtn.then ?_
                         cases hE_15
                         replace hE_14 := Lr_inr hE_14
                         cases hE_14
                         replace h := Lr_inr h
                         cases h
                         exact Rtn.body (.tmp rfl .nil) (fun w hw => ⟨rfl, hfz.trans (hw.ext)⟩)
                        ·replace hE_15 := if_ff g_21 hE_15
                         refine Tri.skip (Nrm.block ?_)
                         refine Nrm.seq (Tri.reg (l := [0, 1, 2]) rfl ?_)
                         refine F.qn rfl (r_move rfl) (F.qn rfl (r_add rfl rfl) (F.qn rfl (r_assign rfl) (F.nil (Nrm.round ?_))))
                         refine Rnd.only [3, 4, 8, 20, 40, 41] rfl ?_
                         refine Rnd.pick [] rfl rfl ?_
                         exact ih_5 _ _ ⟨w64 (x41r + 1), hE_15, rfl, rfl⟩
                       ·replace hE_15 := if_ff g_20 hE_15
                        refine Tri.exit ?_
                        refine Exi.then ?_
                        refine Exi.then ?_
                        refine Exi.same ?_
                        cases hE_15
                        replace hE_14 := Lr_inl hE_14
                        refine Nrm.block ?_
                        refine Nrm.seq (Tri.reg (l := [0, 1, 2]) rfl ?_)
                        refine F.qn rfl (r_move rfl) (F.qn rfl (r_add rfl rfl) (F.qn rfl (r_assign rfl) (F.nil (Nrm.round ?_))))
                        refine Rnd.only [3, 4, 8, 20, 40] rfl ?_
                        refine Rnd.pick [] rfl rfl ?_
                        exact ih_4 _ _ ⟨w64 (x40r + 1), hE_14, rfl, rfl⟩
                     ·replace hE_14 := if_ff g_19 hE_14
                      refine Tri.exit ?_
                      refine Exi.then ?_
                      refine Exi.then ?_
                      refine Exi.same ?_
                      cases hE_14
                      replace h := Lr_inl h
                      refine Nrm.seq (Tri.seq (Tri.seq (Tri.reg (l := [0]) rfl ?_)))
                      refine F.qn rfl (r_assign rfl) (F.nil (Nrm.seq ?_))
                      obtain ⟨s5, hE_16, h⟩ := bind_some h
                      refine Tri.block ?_
                      refine Tri.only [3, 4, 8, 20, 42] rfl ?_
                      refine Tri.pick [] rfl rfl ?_
                      refine Tri.rounds (fun n e' C' => ∃ (x42r' : Int), laws_FnWorlds.l5 k t48_1 t48_2 t51_1 t76_1 t156_1 n x42r' = some s5 ∧ e' = [(3, .pointer (some ⟨b3_1, 0, none⟩)), (4, v51_1), (8, v76_1), (20, v156_1), (42, .int .i64 x42r')] ∧ C' = Sep w noM []) k ?_ ?_ ?_
                      ·exact ⟨0, hE_16, rfl, rfl⟩
                      ·rintro _ _ ⟨_, hE_16, _⟩
                       rw [laws_FnWorlds.l5.eq_1] at hE_16; cases hE_16
                      ·rintro n_6 _ _ ⟨x42r, hE_16, rfl, rfl⟩ ih_6
                       rw [laws_FnWorlds.l5.eq_2] at hE_16
                       refine Tri.seq (Tri.seq (Tri.reg (l := [0, 1, 2, 3]) rfl ?_))
                       refine F.qn rfl (r_move rfl) (F.qn rfl (r_move rfl) (F.qn rfl (r_len Try.underlying25 rfl hl_v76_1) (F.qn rfl (r_lss rfl rfl) (F.nil (Nrm.seq (Tri.cond (b := decide (x42r < (t76_1.length : Int))) rfl (fun g_22 => ?_) (fun g_22 => ?_)))))))
                       ·replace hE_16 := if_tt g_22 hE_16
                        refine Tri.skip (Nrm.seq (Tri.seq (Tri.block ?_)))
                        refine Tri.seq ?_
                        obtain ⟨⟨t343_1, t343_2⟩, h343, hE_16⟩ := bind_some hE_16
                        refine Tri.reg (l := [0, 1, 2, 3, 4, 5, 6, 7]) rfl ?_
                        refine F.qn rfl (r_loadA ta85 ti85 rfl rfl (fun w hw => (hbz_b3_1.sep hw))) (F.qn rfl (r_move rfl) ?_)
                        refine F.qcn rfl (q_callF (xs := _) rfl ok84 rfl rfl (fun w hw => impl_CanEver.ok h343 w ((fun _ hw => hz_6.sep hw) w hw) ((fun _ hw => hz_7.sep hw) w hw))) ?_
                        refine F.qn rfl (r_move rfl) (F.qn rfl (r_extract rfl rfl) (F.qn rfl (r_extract rfl rfl) (F.qn rfl (r_assign rfl) (F.qn rfl (r_assign rfl) (F.nil (Nrm.seq (Tri.seq ?_)))))))
                        obtain ⟨y392r, hE_17, hE_16⟩ := bind_some hE_16
                        refine Tri.cut (fun e' C' => e' = [(3, .pointer (some ⟨b3_1, 0, none⟩)), (4, v51_1), (8, v76_1), (20, v156_1), (42, .int .i64 x42r), (392, .bool y392r)] ∧ C' = Sep w noM []) ?_ (fun hj_11 => ?_)
                        ·rintro _ _ ⟨rfl, rfl⟩
                         refine Nrm.seq (Tri.cond (b := y392r) rfl (fun g_23 => ?_) (fun g_23 => ?_))
                         ·replace hE_16 := if_tt g_23 hE_16
                          refine Tri.seq (Tri.reg (l := [0]) rfl ?_)
                          refine F.qn rfl (r_assign rfl) (F.nil (Nrm.seq (Tri.ret ?_)))
                          refine Rtn.block ?_
                          refine Rtn.then ?_
                          refine Rtn.then ?_
                          refine Rtn.block ?_
                          refine Rtn.then ?_
                          cases hE_16
                          replace h := Lr_inr h
                          cases h
                          exact Rtn.body (.tmp rfl .nil) (fun w hw => ⟨rfl, hfz.trans (hw.ext)⟩)
                         ·replace hE_16 := if_ff g_23 hE_16
                          refine Tri.skip (Nrm.block ?_)
                          refine Nrm.seq (Tri.reg (l := [0, 1, 2]) rfl ?_)
                          refine F.qn rfl (r_move rfl) (F.qn rfl (r_add rfl rfl) (F.qn rfl (r_assign rfl) (F.nil (Nrm.round ?_))))
                          refine Rnd.only [3, 4, 8, 20, 42] rfl ?_
                          refine Rnd.pick [] rfl rfl ?_
                          exact ih_6 _ _ ⟨w64 (x42r + 1), hE_16, rfl, rfl⟩
                        ·rcases Bool.eq_false_or_eq_true (!t343_2) with g348 | g348
                         ·replace hE_17 := if_tt g348 hE_17
                          refine Tri.drawA mixedT Sep.up [(0, true), (1, true), (2, true), (3, true), (4, true), (5, true), (6, true), (7, true), (8, true), (9, true), (10, true), (11, true), (12, true), (13, true), (14, true), (15, true), (16, true), (17, true), (18, true), (19, true), (20, true), (21, true), (22, true), (23, true), (24, true), (25, true), (26, true), (27, true), (28, true), (29, true), (30, true), (31, true), (32, true), (33, true), (34, true), (35, true), (36, true), (37, true), (38, true), (39, true), (40, true), (41, true), (42, true), (43, true), (44, true), (45, true), (46, true)] [] (by kernel_rfl) ?_
                          refine S.qn rfl (r_move rfl) (S.qn rfl (r_not rfl) (S.qn rfl (r_move rfl) ?_))
                          iterate 7 refine S.skf rfl g348 ?_
                          refine S.qn rfl (r_pick rfl rfl g348) (S.qn rfl (r_move rfl) ?_)
                          iterate 6 refine S.skf rfl rfl ?_
                          iterate 16 refine S.sk rfl rfl rfl (wanted_undef rfl rfl rfl) ?_
                          refine S.skf rfl rfl (S.qn rfl (r_pick rfl rfl rfl) (S.qn rfl (r_move rfl) ?_))
                          iterate 6 refine S.skf rfl rfl ?_
                          refine S.sk rfl rfl rfl (wanted_undef rfl rfl rfl) ?_
                          refine S.sk rfl rfl rfl (wanted_undef rfl rfl rfl) ?_
                          refine S.skf rfl rfl (S.qn rfl (r_pick rfl rfl rfl) (S.nil (F.nil ?_)))
                          cases hE_17
                          refine Nrm.only [3, 4, 8, 20, 42, 392] rfl ?_
                          refine Nrm.pick [] rfl rfl ?_
                          exact hj_11 _ _ ⟨rfl, rfl⟩
                         ·replace hE_17 := if_ff g348 hE_17
                          obtain ⟨t351, h351, hE_17⟩ := bind_some hE_17
                          rcases Bool.eq_false_or_eq_true (decide (t351 ≥ (t51_1.length : Int))) with g357 | g357
                          ·replace hE_17 := if_tt g357 hE_17
                           refine Tri.drawA mixedT Sep.up [(0, true), (1, true), (2, true), (3, true), (4, true), (5, true), (6, true), (7, true), (8, true), (9, true), (10, true), (11, true), (12, true), (13, true), (14, true), (15, true), (16, true), (17, true), (18, true), (19, true), (20, true), (21, true), (22, true), (23, true), (24, true), (25, true), (26, true), (27, true), (28, true), (29, true), (30, true), (31, true), (32, true), (33, true), (34, true), (35, true), (36, true), (37, true), (38, true), (39, true), (40, true), (41, true), (42, true), (43, true), (44, true), (45, true), (46, true)] [] (by kernel_rfl) ?_
                           refine S.qn rfl (r_move rfl) (S.qn rfl (r_not rfl) (S.qn rfl (r_move rfl) (S.qg rfl g348 (r_move rfl) (S.qg rfl g348 (r_move rfl) (S.qg rfl g348 (r_indexAddrS Try.underlying25 ti3 rfl hl_v76_1 rfl (rdl_some h351).1 (rdl_some h351).2.1) ?_)))))
                           refine S.qg rfl g348 (r_load ta3 rfl (fun w hw => cell_0 (Rd.flat ((fun _ hw => hz_9.sep hw) w hw) (rdl_some h351).2.2) rfl)) (S.qg rfl g348 (r_move rfl) (S.qg rfl g348 (r_len Try.underlying83 rfl hl_v51_1) (S.qg rfl g348 (r_geq rfl rfl) (S.qn rfl (r_pickf rfl rfl g348) (S.qn rfl (r_move rfl) ?_)))))
                           iterate 6 refine S.skf rfl g357 ?_
                           iterate 16 refine S.sk rfl rfl rfl (wanted_undef rfl rfl rfl) ?_
                           refine S.skf rfl g357 (S.qn rfl (r_pick rfl rfl g357) (S.qn rfl (r_move rfl) ?_))
                           iterate 6 refine S.skf rfl rfl ?_
                           refine S.sk rfl rfl rfl (wanted_undef rfl rfl rfl) ?_
                           refine S.sk rfl rfl rfl (wanted_undef rfl rfl rfl) ?_
                           refine S.skf rfl rfl (S.qn rfl (r_pick rfl rfl rfl) (S.nil (F.nil ?_)))
                           cases hE_17
                           refine Nrm.only [3, 4, 8, 20, 42, 392] rfl ?_
                           refine Nrm.pick [] rfl rfl ?_
                           exact hj_11 _ _ ⟨rfl, rfl⟩
                          ·replace hE_17 := if_ff g357 hE_17
                           obtain ⟨t360, h360, hE_17⟩ := bind_some hE_17
                           rcases Bool.eq_false_or_eq_true (decide (t360 ≥ 0)) with g363 | g363
                           ·replace hE_17 := if_tt g363 hE_17
                            obtain ⟨t366, h366, hE_17⟩ := bind_some hE_17
                            rcases Bool.eq_false_or_eq_true (decide (t366 < 0)) with g369 | g369
                            ·replace hE_17 := if_tt g369 hE_17
                             refine Tri.drawA mixedT Sep.up [(0, true), (1, true), (2, true), (3, true), (4, true), (5, true), (6, true), (7, true), (8, true), (9, true), (10, true), (11, true), (12, true), (13, true), (14, true), (15, true), (16, true), (17, true), (18, true), (19, true), (20, true), (21, true), (22, true), (23, true), (24, true), (25, true), (26, true), (27, true), (28, true), (29, true), (30, true), (31, true), (32, true), (33, true), (34, true), (35, true), (36, true), (37, true), (38, true), (39, true), (40, true), (41, true), (42, true), (43, true), (44, true), (45, true), (46, true)] [] (by kernel_rfl) ?_
                             refine S.qn rfl (r_move rfl) (S.qn rfl (r_not rfl) (S.qn rfl (r_move rfl) (S.qg rfl g348 (r_move rfl) (S.qg rfl g348 (r_move rfl) (S.qg rfl g348 (r_indexAddrS Try.underlying25 ti3 rfl hl_v76_1 rfl (rdl_some h351).1 (rdl_some h351).2.1) ?_)))))
                             refine S.qg rfl g348 (r_load ta3 rfl (fun w hw => cell_0 (Rd.flat ((fun _ hw => hz_9.sep hw) w hw) (rdl_some h351).2.2) rfl)) (S.qg rfl g348 (r_move rfl) (S.qg rfl g348 (r_len Try.underlying83 rfl hl_v51_1) (S.qg rfl g348 (r_geq rfl rfl) (S.qn rfl (r_pickf rfl rfl g348) (S.qn rfl (r_move rfl) ?_)))))
                             refine S.qg rfl g357 (r_move rfl) (S.qg rfl g357 (r_move rfl) (S.qg rfl g357 (r_indexAddrS Try.underlying25 ti3 rfl hl_v76_1 rfl (rdl_some h360).1 (rdl_some h360).2.1) (S.qg rfl g357 (r_load ta3 rfl (fun w hw => cell_0 (Rd.flat ((fun _ hw => hz_9.sep hw) w hw) (rdl_some h360).2.2) rfl)) (S.qg rfl g357 (r_geq rfl rfl) (S.qg rfl g357 (r_move rfl) ?_)))))
                             refine S.qg rfl g363 (r_move rfl) (S.qg rfl g363 (r_move rfl) (S.qg rfl g363 (r_indexAddrS Try.underlying25 ti3 rfl hl_v156_1 rfl (rdl_some h366).1 (rdl_some h366).2.1) (S.qg rfl g363 (r_load ta3 rfl (fun w hw => cell_0 (Rd.flat ((fun _ hw => hz_2.sep hw) w hw) (rdl_some h366).2.2) rfl)) (S.qg rfl g363 (r_lss rfl rfl) (S.qg rfl g363 (r_move rfl) ?_)))))
                             iterate 9 refine S.skf rfl g369 ?_
                             refine S.qg rfl g363 (r_pick rfl rfl g369) (S.qg rfl g357 (r_pick rfl rfl g363) (S.qn rfl (r_pickf rfl rfl g357) (S.qn rfl (r_move rfl) ?_)))
                             iterate 6 refine S.skf rfl rfl ?_
                             refine S.sk rfl rfl rfl (wanted_undef rfl rfl rfl) ?_
                             refine S.sk rfl rfl rfl (wanted_undef rfl rfl rfl) ?_
                             refine S.skf rfl rfl (S.qn rfl (r_pick rfl rfl rfl) (S.nil (F.nil ?_)))
                             cases hE_17
                             refine Nrm.only [3, 4, 8, 20, 42, 392] rfl ?_
                             refine Nrm.pick [] rfl rfl ?_
                             exact hj_11 _ _ ⟨rfl, rfl⟩
                            ·replace hE_17 := if_ff g369 hE_17
                             obtain ⟨t372, h372, hE_17⟩ := bind_some hE_17
                             obtain ⟨t376, h376, hE_17⟩ := bind_some hE_17
                             rcases Bool.eq_false_or_eq_true (decide (t372 > t376)) with g382 | g382
                             ·replace hE_17 := if_tt g382 hE_17
                              refine Tri.drawA mixedT Sep.up [(0, true), (1, true), (2, true), (3, true), (4, true), (5, true), (6, true), (7, true), (8, true), (9, true), (10, true), (11, true), (12, true), (13, true), (14, true), (15, true), (16, true), (17, true), (18, true), (19, true), (20, true), (21, true), (22, true), (23, true), (24, true), (25, true), (26, true), (27, true), (28, true), (29, true), (30, true), (31, true), (32, true), (33, true), (34, true), (35, true), (36, true), (37, true), (38, true), (39, true), (40, true), (41, true), (42, true), (43, true), (44, true), (45, true), (46, true)] [] (by kernel_rfl) ?_
                              refine S.qn rfl (r_move rfl) ?_
                              refine S.qn rfl (r_not rfl) (S.qn rfl (r_move rfl) (S.qg rfl g348 (r_move rfl) (S.qg rfl g348 (r_move rfl) (S.qg rfl g348 (r_indexAddrS Try.underlying25 ti3 rfl hl_v76_1 rfl (rdl_some h351).1 (rdl_some h351).2.1) (S.qg rfl g348 (r_load ta3 rfl (fun w hw => cell_0 (Rd.flat ((fun _ hw => hz_9.sep hw) w hw) (rdl_some h351).2.2) rfl)) ?_)))))
                              refine S.qg rfl g348 (r_move rfl) (S.qg rfl g348 (r_len Try.underlying83 rfl hl_v51_1) (S.qg rfl g348 (r_geq rfl rfl) (S.qn rfl (r_pickf rfl rfl g348) (S.qn rfl (r_move rfl) (S.qg rfl g357 (r_move rfl) ?_)))))
                              refine S.qg rfl g357 (r_move rfl) (S.qg rfl g357 (r_indexAddrS Try.underlying25 ti3 rfl hl_v76_1 rfl (rdl_some h360).1 (rdl_some h360).2.1) (S.qg rfl g357 (r_load ta3 rfl (fun w hw => cell_0 (Rd.flat ((fun _ hw => hz_9.sep hw) w hw) (rdl_some h360).2.2) rfl)) (S.qg rfl g357 (r_geq rfl rfl) (S.qg rfl g357 (r_move rfl) (S.qg rfl g363 (r_move rfl) ?_)))))
                              refine S.qg rfl g363 (r_move rfl) (S.qg rfl g363 (r_indexAddrS Try.underlying25 ti3 rfl hl_v156_1 rfl (rdl_some h366).1 (rdl_some h366).2.1) (S.qg rfl g363 (r_load ta3 rfl (fun w hw => cell_0 (Rd.flat ((fun _ hw => hz_2.sep hw) w hw) (rdl_some h366).2.2) rfl)) (S.qg rfl g363 (r_lss rfl rfl) (S.qg rfl g363 (r_move rfl) (S.qg rfl g369 (r_move rfl) ?_)))))
                              refine S.qg rfl g369 (r_move rfl) (S.qg rfl g369 (r_indexAddrS Try.underlying25 ti3 rfl hl_v156_1 rfl (rdl_some h372).1 (rdl_some h372).2.1) (S.qg rfl g369 (r_load ta3 rfl (fun w hw => cell_0 (Rd.flat ((fun _ hw => hz_2.sep hw) w hw) (rdl_some h372).2.2) rfl)) (S.qg rfl g369 (r_move rfl) (S.qg rfl g369 (r_move rfl) (S.qg rfl g369 (r_indexAddrS Try.underlying25 ti3 rfl hl_v76_1 rfl (rdl_some h376).1 (rdl_some h376).2.1) ?_)))))
                              refine S.qg rfl g369 (r_load ta3 rfl (fun w hw => cell_0 (Rd.flat ((fun _ hw => hz_9.sep hw) w hw) (rdl_some h376).2.2) rfl)) (S.qg rfl g369 (r_gtr rfl rfl) (S.qg rfl g363 (r_pickf rfl rfl g369) (S.qg rfl g357 (r_pick rfl rfl g363) (S.qn rfl (r_pickf rfl rfl g357) (S.qn rfl (r_move rfl) ?_)))))
                              iterate 6 refine S.skf rfl g382 ?_
                              refine S.sk rfl rfl rfl (wanted_undef rfl rfl rfl) ?_
                              refine S.sk rfl rfl rfl (wanted_undef rfl rfl rfl) ?_
                              refine S.skf rfl g382 (S.qn rfl (r_pick rfl rfl g382) (S.nil (F.nil ?_)))
                              cases hE_17
                              refine Nrm.only [3, 4, 8, 20, 42, 392] rfl ?_
                              refine Nrm.pick [] rfl rfl ?_
                              exact hj_11 _ _ ⟨rfl, rfl⟩
                             ·replace hE_17 := if_ff g382 hE_17
                              obtain ⟨t385, h385, hE_17⟩ := bind_some hE_17
                              rcases Bool.eq_false_or_eq_true (decide (t385 ≥ 0)) with g388 | g388
                              ·replace hE_17 := if_tt g388 hE_17
                               refine Tri.drawA mixedT Sep.up [(0, true), (1, true), (2, true), (3, true), (4, true), (5, true), (6, true), (7, true), (8, true), (9, true), (10, true), (11, true), (12, true), (13, true), (14, true), (15, true), (16, true), (17, true), (18, true), (19, true), (20, true), (21, true), (22, true), (23, true), (24, true), (25, true), (26, true), (27, true), (28, true), (29, true), (30, true), (31, true), (32, true), (33, true), (34, true), (35, true), (36, true), (37, true), (38, true), (39, true), (40, true), (41, true), (42, true), (43, true), (44, true), (45, true), (46, true)] [] (by kernel_rfl) ?_
                               refine S.qn rfl (r_move rfl) (S.qn rfl (r_not rfl) (S.qn rfl (r_move rfl) (S.qg rfl g348 (r_move rfl) (S.qg rfl g348 (r_move rfl) ?_))))
                               refine S.qg rfl g348 (r_indexAddrS Try.underlying25 ti3 rfl hl_v76_1 rfl (rdl_some h351).1 (rdl_some h351).2.1) (S.qg rfl g348 (r_load ta3 rfl (fun w hw => cell_0 (Rd.flat ((fun _ hw => hz_9.sep hw) w hw) (rdl_some h351).2.2) rfl)) (S.qg rfl g348 (r_move rfl) (S.qg rfl g348 (r_len Try.underlying83 rfl hl_v51_1) (S.qg rfl g348 (r_geq rfl rfl) (S.qn rfl (r_pickf rfl rfl g348) ?_)))))
                               refine S.qn rfl (r_move rfl) (S.qg rfl g357 (r_move rfl) (S.qg rfl g357 (r_move rfl) (S.qg rfl g357 (r_indexAddrS Try.underlying25 ti3 rfl hl_v76_1 rfl (rdl_some h360).1 (rdl_some h360).2.1) (S.qg rfl g357 (r_load ta3 rfl (fun w hw => cell_0 (Rd.flat ((fun _ hw => hz_9.sep hw) w hw) (rdl_some h360).2.2) rfl)) (S.qg rfl g357 (r_geq rfl rfl) ?_)))))
                               refine S.qg rfl g357 (r_move rfl) (S.qg rfl g363 (r_move rfl) (S.qg rfl g363 (r_move rfl) (S.qg rfl g363 (r_indexAddrS Try.underlying25 ti3 rfl hl_v156_1 rfl (rdl_some h366).1 (rdl_some h366).2.1) (S.qg rfl g363 (r_load ta3 rfl (fun w hw => cell_0 (Rd.flat ((fun _ hw => hz_2.sep hw) w hw) (rdl_some h366).2.2) rfl)) (S.qg rfl g363 (r_lss rfl rfl) ?_)))))
                               refine S.qg rfl g363 (r_move rfl) (S.qg rfl g369 (r_move rfl) (S.qg rfl g369 (r_move rfl) (S.qg rfl g369 (r_indexAddrS Try.underlying25 ti3 rfl hl_v156_1 rfl (rdl_some h372).1 (rdl_some h372).2.1) (S.qg rfl g369 (r_load ta3 rfl (fun w hw => cell_0 (Rd.flat ((fun _ hw => hz_2.sep hw) w hw) (rdl_some h372).2.2) rfl)) (S.qg rfl g369 (r_move rfl) ?_)))))
                               refine S.qg rfl g369 (r_move rfl) (S.qg rfl g369 (r_indexAddrS Try.underlying25 ti3 rfl hl_v76_1 rfl (rdl_some h376).1 (rdl_some h376).2.1) (S.qg rfl g369 (r_load ta3 rfl (fun w hw => cell_0 (Rd.flat ((fun _ hw => hz_9.sep hw) w hw) (rdl_some h376).2.2) rfl)) (S.qg rfl g369 (r_gtr rfl rfl) (S.qg rfl g363 (r_pickf rfl rfl g369) (S.qg rfl g357 (r_pick rfl rfl g363) ?_)))))
                               refine S.qn rfl (r_pickf rfl rfl g357) (S.qn rfl (r_move rfl) (S.qg rfl g382 (r_move rfl) (S.qg rfl g382 (r_move rfl) (S.qg rfl g382 (r_indexAddrS Try.underlying25 ti3 rfl hl_v156_1 rfl (rdl_some h385).1 (rdl_some h385).2.1) (S.qg rfl g382 (r_load ta3 rfl (fun w hw => cell_0 (Rd.flat ((fun _ hw => hz_2.sep hw) w hw) (rdl_some h385).2.2) rfl)) ?_)))))
                               refine S.qg rfl g382 (r_geq rfl rfl) (S.qg rfl g382 (r_move rfl) (S.qg rfl g388 (r_move rfl) (S.qg rfl g388 (r_not rfl) (S.qg rfl g382 (r_pick rfl rfl g388) (S.qn rfl (r_pickf rfl rfl g382) (S.nil (F.nil ?_)))))))
                               cases hE_17
                               refine Nrm.only [3, 4, 8, 20, 42, 392] rfl ?_
                               refine Nrm.pick [] rfl rfl ?_
                               exact hj_11 _ _ ⟨rfl, rfl⟩
                              ·replace hE_17 := if_ff g388 hE_17
                               refine Tri.drawA mixedT Sep.up [(0, true), (1, true), (2, true), (3, true), (4, true), (5, true), (6, true), (7, true), (8, true), (9, true), (10, true), (11, true), (12, true), (13, true), (14, true), (15, true), (16, true), (17, true), (18, true), (19, true), (20, true), (21, true), (22, true), (23, true), (24, true), (25, true), (26, true), (27, true), (28, true), (29, true), (30, true), (31, true), (32, true), (33, true), (34, true), (35, true), (36, true), (37, true), (38, true), (39, true), (40, true), (41, true), (42, true), (43, true), (44, true), (45, true), (46, true)] [] (by kernel_rfl) ?_
                               refine S.qn rfl (r_move rfl) (S.qn rfl (r_not rfl) (S.qn rfl (r_move rfl) (S.qg rfl g348 (r_move rfl) (S.qg rfl g348 (r_move rfl) ?_))))
                               refine S.qg rfl g348 (r_indexAddrS Try.underlying25 ti3 rfl hl_v76_1 rfl (rdl_some h351).1 (rdl_some h351).2.1) (S.qg rfl g348 (r_load ta3 rfl (fun w hw => cell_0 (Rd.flat ((fun _ hw => hz_9.sep hw) w hw) (rdl_some h351).2.2) rfl)) (S.qg rfl g348 (r_move rfl) (S.qg rfl g348 (r_len Try.underlying83 rfl hl_v51_1) (S.qg rfl g348 (r_geq rfl rfl) (S.qn rfl (r_pickf rfl rfl g348) ?_)))))
                               refine S.qn rfl (r_move rfl) (S.qg rfl g357 (r_move rfl) (S.qg rfl g357 (r_move rfl) (S.qg rfl g357 (r_indexAddrS Try.underlying25 ti3 rfl hl_v76_1 rfl (rdl_some h360).1 (rdl_some h360).2.1) (S.qg rfl g357 (r_load ta3 rfl (fun w hw => cell_0 (Rd.flat ((fun _ hw => hz_9.sep hw) w hw) (rdl_some h360).2.2) rfl)) (S.qg rfl g357 (r_geq rfl rfl) ?_)))))
                               refine S.qg rfl g357 (r_move rfl) (S.qg rfl g363 (r_move rfl) (S.qg rfl g363 (r_move rfl) (S.qg rfl g363 (r_indexAddrS Try.underlying25 ti3 rfl hl_v156_1 rfl (rdl_some h366).1 (rdl_some h366).2.1) (S.qg rfl g363 (r_load ta3 rfl (fun w hw => cell_0 (Rd.flat ((fun _ hw => hz_2.sep hw) w hw) (rdl_some h366).2.2) rfl)) (S.qg rfl g363 (r_lss rfl rfl) ?_)))))
                               refine S.qg rfl g363 (r_move rfl) (S.qg rfl g369 (r_move rfl) (S.qg rfl g369 (r_move rfl) (S.qg rfl g369 (r_indexAddrS Try.underlying25 ti3 rfl hl_v156_1 rfl (rdl_some h372).1 (rdl_some h372).2.1) (S.qg rfl g369 (r_load ta3 rfl (fun w hw => cell_0 (Rd.flat ((fun _ hw => hz_2.sep hw) w hw) (rdl_some h372).2.2) rfl)) (S.qg rfl g369 (r_move rfl) ?_)))))
                               refine S.qg rfl g369 (r_move rfl) (S.qg rfl g369 (r_indexAddrS Try.underlying25 ti3 rfl hl_v76_1 rfl (rdl_some h376).1 (rdl_some h376).2.1) (S.qg rfl g369 (r_load ta3 rfl (fun w hw => cell_0 (Rd.flat ((fun _ hw => hz_9.sep hw) w hw) (rdl_some h376).2.2) rfl)) (S.qg rfl g369 (r_gtr rfl rfl) (S.qg rfl g363 (r_pickf rfl rfl g369) (S.qg rfl g357 (r_pick rfl rfl g363) ?_)))))
                               refine S.qn rfl (r_pickf rfl rfl g357) (S.qn rfl (r_move rfl) (S.qg rfl g382 (r_move rfl) (S.qg rfl g382 (r_move rfl) (S.qg rfl g382 (r_indexAddrS Try.underlying25 ti3 rfl hl_v156_1 rfl (rdl_some h385).1 (rdl_some h385).2.1) (S.qg rfl g382 (r_load ta3 rfl (fun w hw => cell_0 (Rd.flat ((fun _ hw => hz_2.sep hw) w hw) (rdl_some h385).2.2) rfl)) ?_)))))
                               refine S.qg rfl g382 (r_geq rfl rfl) (S.qg rfl g382 (r_move rfl) (S.skf rfl g388 (S.skf rfl g388 (S.qg rfl g382 (r_pickf rfl rfl g388) (S.qn rfl (r_pickf rfl rfl g382) (S.nil (F.nil ?_)))))))
                               cases hE_17
                               refine Nrm.only [3, 4, 8, 20, 42, 392] rfl ?_
                               refine Nrm.pick [] rfl rfl ?_
                               exact hj_11 _ _ ⟨rfl, rfl⟩
                           ·replace hE_17 := if_ff g363 hE_17
                            obtain ⟨t385, h385, hE_17⟩ := bind_some hE_17
                            rcases Bool.eq_false_or_eq_true (decide (t385 ≥ 0)) with g388 | g388
                            ·replace hE_17 := if_tt g388 hE_17
                             refine Tri.drawA mixedT Sep.up [(0, true), (1, true), (2, true), (3, true), (4, true), (5, true), (6, true), (7, true), (8, true), (9, true), (10, true), (11, true), (12, true), (13, true), (14, true), (15, true), (16, true), (17, true), (18, true), (19, true), (20, true), (21, true), (22, true), (23, true), (24, true), (25, true), (26, true), (27, true), (28, true), (29, true), (30, true), (31, true), (32, true), (33, true), (34, true), (35, true), (36, true), (37, true), (38, true), (39, true), (40, true), (41, true), (42, true), (43, true), (44, true), (45, true), (46, true)] [] (by kernel_rfl) ?_
                             refine S.qn rfl (r_move rfl) (S.qn rfl (r_not rfl) (S.qn rfl (r_move rfl) (S.qg rfl g348 (r_move rfl) (S.qg rfl g348 (r_move rfl) (S.qg rfl g348 (r_indexAddrS Try.underlying25 ti3 rfl hl_v76_1 rfl (rdl_some h351).1 (rdl_some h351).2.1) ?_)))))
                             refine S.qg rfl g348 (r_load ta3 rfl (fun w hw => cell_0 (Rd.flat ((fun _ hw => hz_9.sep hw) w hw) (rdl_some h351).2.2) rfl)) (S.qg rfl g348 (r_move rfl) (S.qg rfl g348 (r_len Try.underlying83 rfl hl_v51_1) (S.qg rfl g348 (r_geq rfl rfl) (S.qn rfl (r_pickf rfl rfl g348) (S.qn rfl (r_move rfl) ?_)))))
                             refine S.qg rfl g357 (r_move rfl) (S.qg rfl g357 (r_move rfl) (S.qg rfl g357 (r_indexAddrS Try.underlying25 ti3 rfl hl_v76_1 rfl (rdl_some h360).1 (rdl_some h360).2.1) (S.qg rfl g357 (r_load ta3 rfl (fun w hw => cell_0 (Rd.flat ((fun _ hw => hz_9.sep hw) w hw) (rdl_some h360).2.2) rfl)) (S.qg rfl g357 (r_geq rfl rfl) (S.qg rfl g357 (r_move rfl) ?_)))))
                             iterate 6 refine S.skf rfl g363 ?_
                             iterate 9 refine S.sk rfl rfl rfl (wanted_undef rfl rfl rfl) ?_
                             refine S.skf rfl g363 (S.qg rfl g357 (r_pickf rfl rfl g363) ?_)
                             refine S.qn rfl (r_pickf rfl rfl g357) (S.qn rfl (r_move rfl) (S.qg rfl rfl (r_move rfl) (S.qg rfl rfl (r_move rfl) (S.qg rfl rfl (r_indexAddrS Try.underlying25 ti3 rfl hl_v156_1 rfl (rdl_some h385).1 (rdl_some h385).2.1) (S.qg rfl rfl (r_load ta3 rfl (fun w hw => cell_0 (Rd.flat ((fun _ hw => hz_2.sep hw) w hw) (rdl_some h385).2.2) rfl)) ?_)))))
                             refine S.qg rfl rfl (r_geq rfl rfl) (S.qg rfl rfl (r_move rfl) (S.qg rfl g388 (r_move rfl) (S.qg rfl g388 (r_not rfl) (S.qg rfl rfl (r_pick rfl rfl g388) (S.qn rfl (r_pickf rfl rfl rfl) (S.nil (F.nil ?_)))))))
                             cases hE_17
                             refine Nrm.only [3, 4, 8, 20, 42, 392] rfl ?_
                             refine Nrm.pick [] rfl rfl ?_
                             exact hj_11 _ _ ⟨rfl, rfl⟩
                            ·replace hE_17 := if_ff g388 hE_17
                             refine Tri.drawA mixedT Sep.up [(0, true), (1, true), (2, true), (3, true), (4, true), (5, true), (6, true), (7, true), (8, true), (9, true), (10, true), (11, true), (12, true), (13, true), (14, true), (15, true), (16, true), (17, true), (18, true), (19, true), (20, true), (21, true), (22, true), (23, true), (24, true), (25, true), (26, true), (27, true), (28, true), (29, true), (30, true), (31, true), (32, true), (33, true), (34, true), (35, true), (36, true), (37, true), (38, true), (39, true), (40, true), (41, true), (42, true), (43, true), (44, true), (45, true), (46, true)] [] (by kernel_rfl) ?_
                             refine S.qn rfl (r_move rfl) (S.qn rfl (r_not rfl) (S.qn rfl (r_move rfl) (S.qg rfl g348 (r_move rfl) (S.qg rfl g348 (r_move rfl) (S.qg rfl g348 (r_indexAddrS Try.underlying25 ti3 rfl hl_v76_1 rfl (rdl_some h351).1 (rdl_some h351).2.1) ?_)))))
                             refine S.qg rfl g348 (r_load ta3 rfl (fun w hw => cell_0 (Rd.flat ((fun _ hw => hz_9.sep hw) w hw) (rdl_some h351).2.2) rfl)) (S.qg rfl g348 (r_move rfl) (S.qg rfl g348 (r_len Try.underlying83 rfl hl_v51_1) (S.qg rfl g348 (r_geq rfl rfl) (S.qn rfl (r_pickf rfl rfl g348) (S.qn rfl (r_move rfl) ?_)))))
                             refine S.qg rfl g357 (r_move rfl) (S.qg rfl g357 (r_move rfl) (S.qg rfl g357 (r_indexAddrS Try.underlying25 ti3 rfl hl_v76_1 rfl (rdl_some h360).1 (rdl_some h360).2.1) (S.qg rfl g357 (r_load ta3 rfl (fun w hw => cell_0 (Rd.flat ((fun _ hw => hz_9.sep hw) w hw) (rdl_some h360).2.2) rfl)) (S.qg rfl g357 (r_geq rfl rfl) (S.qg rfl g357 (r_move rfl) ?_)))))
                             iterate 6 refine S.skf rfl g363 ?_
                             iterate 9 refine S.sk rfl rfl rfl (wanted_undef rfl rfl rfl) ?_
                             refine S.skf rfl g363 (S.qg rfl g357 (r_pickf rfl rfl g363) ?_)
                             refine S.qn rfl (r_pickf rfl rfl g357) (S.qn rfl (r_move rfl) (S.qg rfl rfl (r_move rfl) (S.qg rfl rfl (r_move rfl) (S.qg rfl rfl (r_indexAddrS Try.underlying25 ti3 rfl hl_v156_1 rfl (rdl_some h385).1 (rdl_some h385).2.1) (S.qg rfl rfl (r_load ta3 rfl (fun w hw => cell_0 (Rd.flat ((fun _ hw => hz_2.sep hw) w hw) (rdl_some h385).2.2) rfl)) ?_)))))
                             refine S.qg rfl rfl (r_geq rfl rfl) (S.qg rfl rfl (r_move rfl) (S.skf rfl g388 (S.skf rfl g388 (S.qg rfl rfl (r_pickf rfl rfl g388) (S.qn rfl (r_pickf rfl rfl rfl) (S.nil (F.nil ?_)))))))
                             cases hE_17
                             refine Nrm.only [3, 4, 8, 20, 42, 392] rfl ?_
                             refine Nrm.pick [] rfl rfl ?_
                             exact hj_11 _ _ ⟨rfl, rfl⟩
                       ·replace hE_16 := if_ff g_22 hE_16
                        refine Tri.exit ?_
                        refine Exi.then ?_
                        refine Exi.then ?_
                        refine Exi.same ?_
                        cases hE_16
                        replace h := Lr_inl h
                        refine Nrm.seq (Tri.seq (Tri.reg (l := [0]) rfl ?_))
                        refine F.qn rfl (r_assign rfl) (F.nil (Nrm.seq (Tri.ret ?_)))
                        cases h
                        exact Rtn.body (.tmp rfl .nil) (fun w hw => ⟨rfl, hfz.trans (hw.ext)⟩)
                ·rcases Bool.eq_false_or_eq_true (t238_1 != t244_1) with g250 | g250
                 ·replace hE_8 := if_tt g250 hE_8
                  refine Tri.reg (l := List.range 13) rfl ?_
                  refine F.qn rfl (r_move rfl) (F.qn rfl (r_move rfl) (F.qn rfl (r_neqB Try.underlying4 rfl rfl) (F.qn rfl (r_move rfl) ?_)))
                  iterate 3 refine F.skf rfl g250 ?_
                  refine F.qn rfl (r_pick rfl rfl g250) (F.qn rfl (r_move rfl) ?_)
                  iterate 3 refine F.skf rfl rfl ?_
                  refine F.qn rfl (r_pick rfl rfl rfl) (F.nil ?_)
                  cases hE_8
                  refine Nrm.only [3, 4, 5, 8, 20, 24, 25, 30, 31, 34, 259] rfl ?_
                  refine Nrm.pick [0, 1, 2, 3, 4, 5, 6, 7, 8, 9] rfl rfl ?_
                  exact hj_8 _ _ ⟨rfl, rfl⟩
                 ·replace hE_8 := if_ff g250 hE_8
                  rcases Bool.eq_false_or_eq_true (t238_2 != t244_2) with g255 | g255
                  ·replace hE_8 := if_tt g255 hE_8
                   refine Tri.reg (l := List.range 13) rfl ?_
                   refine F.qn rfl (r_move rfl) (F.qn rfl (r_move rfl) (F.qn rfl (r_neqB Try.underlying4 rfl rfl) ?_))
                   refine F.qn rfl (r_move rfl) (F.qg rfl g250 (r_move rfl) (F.qg rfl g250 (r_move rfl) (F.qg rfl g250 (r_neqB Try.underlying4 rfl rfl) (F.qn rfl (r_pickf rfl rfl g250) (F.qn rfl (r_move rfl) ?_)))))
                   iterate 3 refine F.skf rfl g255 ?_
                   refine F.qn rfl (r_pick rfl rfl g255) (F.nil ?_)
                   cases hE_8
                   refine Nrm.only [3, 4, 5, 8, 20, 24, 25, 30, 31, 34, 259] rfl ?_
                   refine Nrm.pick [0, 1, 2, 3, 4, 5, 6, 7, 8, 9] rfl rfl ?_
                   exact hj_8 _ _ ⟨rfl, rfl⟩
                  ·replace hE_8 := if_ff g255 hE_8
                   refine Tri.reg (l := List.range 13) rfl ?_
                   refine F.qn rfl (r_move rfl) ?_
                   refine F.qn rfl (r_move rfl) (F.qn rfl (r_neqB Try.underlying4 rfl rfl) (F.qn rfl (r_move rfl) (F.qg rfl g250 (r_move rfl) (F.qg rfl g250 (r_move rfl) (F.qg rfl g250 (r_neqB Try.underlying4 rfl rfl) ?_)))))
                   refine F.qn rfl (r_pickf rfl rfl g250) (F.qn rfl (r_move rfl) (F.qg rfl g255 (r_move rfl) (F.qg rfl g255 (r_move rfl) (F.qg rfl g255 (r_neqB Try.underlying4 rfl rfl) (F.qn rfl (r_pickf rfl rfl g255) (F.nil ?_))))))
                   cases hE_8
                   refine Nrm.only [3, 4, 5, 8, 20, 24, 25, 30, 31, 34, 259] rfl ?_
                   refine Nrm.pick [0, 1, 2, 3, 4, 5, 6, 7, 8, 9] rfl rfl ?_
                   exact hj_8 _ _ ⟨rfl, rfl⟩
              ·rcases Bool.eq_false_or_eq_true (t212_2 != t218_2) with g224 | g224
               ·replace hE_7 := if_tt g224 hE_7
                refine Tri.reg (l := List.range 14) rfl ?_
                refine F.qn rfl (r_move rfl) (F.qn rfl (r_move rfl) (F.qn rfl (r_neqB Try.underlying4 rfl rfl) (F.qn rfl (r_move rfl) ?_)))
                iterate 3 refine F.skf rfl g224 ?_
                refine F.qn rfl (r_pick rfl rfl g224) (F.qn rfl (r_move rfl) ?_)
                iterate 4 refine F.skf rfl rfl ?_
                refine F.qn rfl (r_pick rfl rfl rfl) (F.nil ?_)
                cases hE_7
                refine Nrm.only [3, 4, 5, 8, 20, 24, 25, 27, 30, 31, 234] rfl ?_
                refine Nrm.pick [2, 3, 4, 5, 6, 1, 7, 8, 9, 10] rfl rfl ?_
                exact hj_7 _ _ ⟨rfl, rfl⟩
               ·replace hE_7 := if_ff g224 hE_7
                rcases Bool.eq_false_or_eq_true (t212_2 != t186_2) with g229 | g229
                ·replace hE_7 := if_tt g229 hE_7
                 refine Tri.reg (l := List.range 14) rfl ?_
                 refine F.qn rfl (r_move rfl) (F.qn rfl (r_move rfl) (F.qn rfl (r_neqB Try.underlying4 rfl rfl) ?_))
                 refine F.qn rfl (r_move rfl) (F.qg rfl g224 (r_move rfl) (F.qg rfl g224 (r_move rfl) (F.qg rfl g224 (r_neqB Try.underlying4 rfl rfl) (F.qn rfl (r_pickf rfl rfl g224) (F.qn rfl (r_move rfl) ?_)))))
                 iterate 4 refine F.skf rfl g229 ?_
                 refine F.qn rfl (r_pick rfl rfl g229) (F.nil ?_)
                 cases hE_7
                 refine Nrm.only [3, 4, 5, 8, 20, 24, 25, 27, 30, 31, 234] rfl ?_
                 refine Nrm.pick [2, 3, 4, 5, 6, 1, 7, 8, 9, 10] rfl rfl ?_
                 exact hj_7 _ _ ⟨rfl, rfl⟩
                ·replace hE_7 := if_ff g229 hE_7
                 obtain ⟨t232, h232, hE_7⟩ := bind_some hE_7
                 refine Tri.reg (l := List.range 14) rfl ?_
                 refine F.qn rfl (r_move rfl) (F.qn rfl (r_move rfl) (F.qn rfl (r_neqB Try.underlying4 rfl rfl) (F.qn rfl (r_move rfl) (F.qg rfl g224 (r_move rfl) ?_))))
                 refine F.qg rfl g224 (r_move rfl) (F.qg rfl g224 (r_neqB Try.underlying4 rfl rfl) (F.qn rfl (r_pickf rfl rfl g224) (F.qn rfl (r_move rfl) (F.qg rfl g229 (r_move rfl) (F.qg rfl g229 (r_move rfl) ?_)))))
                 refine F.qc rfl rfl rfl (wg rfl rfl rfl g229) (q_callF (xs := _) rfl ok51 rfl rfl (fun w hw => laws_rInts.ok h232 w ((rd_sl (i := 1) rfl) w hw) ((rd_sl (i := 0) rfl) w hw))) ?_
                 refine F.qg rfl g229 (r_not rfl) (F.qn rfl (r_pickf rfl rfl g229) (F.nil ?_))
                 cases hE_7
                 refine Nrm.only [3, 4, 5, 8, 20, 24, 25, 27, 30, 31, 234] rfl ?_
                 refine Nrm.pick [2, 3, 4, 5, 6, 1, 7, 8, 9, 10] rfl rfl ?_
                 exact hj_7 _ _ ⟨rfl, rfl⟩
            ·rcases Bool.eq_false_or_eq_true (t186_2 != t192_2) with g198 | g198
             ·replace hE_6 := if_tt g198 hE_6
              refine Tri.reg (l := List.range 14) rfl ?_
              refine F.qn rfl (r_move rfl) (F.qn rfl (r_move rfl) (F.qn rfl (r_neqB Try.underlying4 rfl rfl) (F.qn rfl (r_move rfl) ?_)))
              iterate 4 refine F.skf rfl g198 ?_
              refine F.qn rfl (r_pick rfl rfl g198) (F.qn rfl (r_move rfl) ?_)
              iterate 3 refine F.skf rfl rfl ?_
              refine F.qn rfl (r_pick rfl rfl rfl) (F.nil ?_)
              cases hE_6
              refine Nrm.only [3, 4, 5, 8, 20, 24, 25, 27, 208] rfl ?_
              refine Nrm.pick [2, 5, 6, 3, 4, 7, 8, 9, 10] rfl rfl ?_
              exact hj_6 _ _ ⟨rfl, rfl⟩
             ·replace hE_6 := if_ff g198 hE_6
              obtain ⟨t201, h201, hE_6⟩ := bind_some hE_6
              rcases Bool.eq_false_or_eq_true (!t201) with g204 | g204
              ·replace hE_6 := if_tt g204 hE_6
               refine Tri.reg (l := List.range 14) rfl ?_
               refine F.qn rfl (r_move rfl) (F.qn rfl (r_move rfl) (F.qn rfl (r_neqB Try.underlying4 rfl rfl) (F.qn rfl (r_move rfl) (F.qg rfl g198 (r_move rfl) (F.qg rfl g198 (r_move rfl) ?_)))))
               refine F.qc rfl rfl rfl (wg rfl rfl rfl g198) (q_callF (xs := _) rfl ok51 rfl rfl (fun w hw => laws_rInts.ok h201 w ((rd_sl (i := 1) rfl) w hw) ((rd_sl (i := 0) rfl) w hw))) ?_
               refine F.qg rfl g198 (r_not rfl) (F.qn rfl (r_pickf rfl rfl g198) (F.qn rfl (r_move rfl) ?_))
               iterate 3 refine F.skf rfl g204 ?_
               refine F.qn rfl (r_pick rfl rfl g204) (F.nil ?_)
               cases hE_6
               refine Nrm.only [3, 4, 5, 8, 20, 24, 25, 27, 208] rfl ?_
               refine Nrm.pick [2, 5, 6, 3, 4, 7, 8, 9, 10] rfl rfl ?_
               exact hj_6 _ _ ⟨rfl, rfl⟩
              ·replace hE_6 := if_ff g204 hE_6
               obtain ⟨t207, h207, hE_6⟩ := bind_some hE_6
               refine Tri.reg (l := List.range 14) rfl ?_
               refine F.qn rfl (r_move rfl) (F.qn rfl (r_move rfl) (F.qn rfl (r_neqB Try.underlying4 rfl rfl) (F.qn rfl (r_move rfl) (F.qg rfl g198 (r_move rfl) (F.qg rfl g198 (r_move rfl) ?_)))))
               refine F.qc rfl rfl rfl (wg rfl rfl rfl g198) (q_callF (xs := _) rfl ok51 rfl rfl (fun w hw => laws_rInts.ok h201 w ((rd_sl (i := 1) rfl) w hw) ((rd_sl (i := 0) rfl) w hw))) ?_
               refine F.qg rfl g198 (r_not rfl) (F.qn rfl (r_pickf rfl rfl g198) (F.qn rfl (r_move rfl) (F.qg rfl g204 (r_move rfl) (F.qg rfl g204 (r_move rfl) ?_))))
               refine F.qc rfl rfl rfl (wg rfl rfl rfl g204) (q_callF (xs := _) rfl ok63 rfl rfl (fun w hw => laws_rHas.ok h207 w ((rd_sl (i := 1) rfl) w hw))) ?_
               refine F.qn rfl (r_pickf rfl rfl g204) (F.nil ?_)
               cases hE_6
               refine Nrm.only [3, 4, 5, 8, 20, 24, 25, 27, 208] rfl ?_
               refine Nrm.pick [2, 5, 6, 3, 4, 7, 8, 9, 10] rfl rfl ?_
               exact hj_6 _ _ ⟨rfl, rfl⟩
          ·rcases Bool.eq_false_or_eq_true (t156_2 != t161_2) with g167 | g167
           ·replace hE_5 := if_tt g167 hE_5
            refine Tri.reg (l := List.range 14) rfl ?_
            refine F.qn rfl (r_move rfl) (F.qn rfl (r_move rfl) (F.qn rfl (r_neqB Try.underlying4 rfl rfl) (F.qn rfl (r_move rfl) ?_)))
            iterate 3 refine F.skf rfl g167 ?_
            refine F.qn rfl (r_pick rfl rfl g167) (F.qn rfl (r_move rfl) ?_)
            iterate 4 refine F.skf rfl rfl ?_
            refine F.qn rfl (r_pick rfl rfl rfl) (F.nil ?_)
            cases hE_5
            refine Nrm.only [0, 3, 4, 5, 8, 20, 177] rfl ?_
            refine Nrm.pick [2, 1, 3, 4, 5, 6] rfl rfl ?_
            exact hj_5 _ _ ⟨rfl, rfl⟩
           ·replace hE_5 := if_ff g167 hE_5
            rcases Bool.eq_false_or_eq_true (t156_2 != t51_2) with g172 | g172
            ·replace hE_5 := if_tt g172 hE_5
             refine Tri.reg (l := List.range 14) rfl ?_
             refine F.qn rfl (r_move rfl) (F.qn rfl (r_move rfl) (F.qn rfl (r_neqB Try.underlying4 rfl rfl) ?_))
             refine F.qn rfl (r_move rfl) (F.qg rfl g167 (r_move rfl) (F.qg rfl g167 (r_move rfl) (F.qg rfl g167 (r_neqB Try.underlying4 rfl rfl) (F.qn rfl (r_pickf rfl rfl g167) (F.qn rfl (r_move rfl) ?_)))))
             iterate 4 refine F.skf rfl g172 ?_
             refine F.qn rfl (r_pick rfl rfl g172) (F.nil ?_)
             cases hE_5
             refine Nrm.only [0, 3, 4, 5, 8, 20, 177] rfl ?_
             refine Nrm.pick [2, 1, 3, 4, 5, 6] rfl rfl ?_
             exact hj_5 _ _ ⟨rfl, rfl⟩
            ·replace hE_5 := if_ff g172 hE_5
             obtain ⟨t175, h175, hE_5⟩ := bind_some hE_5
             refine Tri.reg (l := List.range 14) rfl ?_
             refine F.qn rfl (r_move rfl) (F.qn rfl (r_move rfl) (F.qn rfl (r_neqB Try.underlying4 rfl rfl) (F.qn rfl (r_move rfl) (F.qg rfl g167 (r_move rfl) ?_))))
             refine F.qg rfl g167 (r_move rfl) (F.qg rfl g167 (r_neqB Try.underlying4 rfl rfl) (F.qn rfl (r_pickf rfl rfl g167) (F.qn rfl (r_move rfl) (F.qg rfl g172 (r_move rfl) (F.qg rfl g172 (r_move rfl) ?_)))))
             refine F.qc rfl rfl rfl (wg rfl rfl rfl g172) (q_callF (xs := _) rfl ok51 rfl rfl (fun w hw => laws_rInts.ok h175 w ((rd_sl (i := 1) rfl) w hw) ((rd_sl (i := 0) rfl) w hw))) ?_
             refine F.qg rfl g172 (r_not rfl) (F.qn rfl (r_pickf rfl rfl g172) (F.nil ?_))
             cases hE_5
             refine Nrm.only [0, 3, 4, 5, 8, 20, 177] rfl ?_
             refine Nrm.pick [2, 1, 3, 4, 5, 6] rfl rfl ?_
             exact hj_5 _ _ ⟨rfl, rfl⟩
        ·rcases Bool.eq_false_or_eq_true (t132_2 != t137_2) with g143 | g143
         ·replace hE_4 := if_tt g143 hE_4
          refine Tri.reg (l := List.range 14) rfl ?_
          refine F.qn rfl (r_move rfl) (F.qn rfl (r_move rfl) (F.qn rfl (r_neqB Try.underlying4 rfl rfl) (F.qn rfl (r_move rfl) ?_)))
          iterate 3 refine F.skf rfl g143 ?_
          refine F.qn rfl (r_pick rfl rfl g143) (F.qn rfl (r_move rfl) ?_)
          iterate 4 refine F.skf rfl rfl ?_
          refine F.qn rfl (r_pick rfl rfl rfl) (F.nil ?_)
          cases hE_4
          refine Nrm.only [0, 3, 4, 5, 8, 153] rfl ?_
          refine Nrm.pick [2, 3, 4, 5, 6] rfl rfl ?_
          exact hj_4 _ _ ⟨rfl, rfl⟩
         ·replace hE_4 := if_ff g143 hE_4
          rcases Bool.eq_false_or_eq_true (t132_2 != t51_2) with g148 | g148
          ·replace hE_4 := if_tt g148 hE_4
           refine Tri.reg (l := List.range 14) rfl ?_
           refine F.qn rfl (r_move rfl) (F.qn rfl (r_move rfl) (F.qn rfl (r_neqB Try.underlying4 rfl rfl) ?_))
           refine F.qn rfl (r_move rfl) (F.qg rfl g143 (r_move rfl) (F.qg rfl g143 (r_move rfl) (F.qg rfl g143 (r_neqB Try.underlying4 rfl rfl) (F.qn rfl (r_pickf rfl rfl g143) (F.qn rfl (r_move rfl) ?_)))))
           iterate 4 refine F.skf rfl g148 ?_
           refine F.qn rfl (r_pick rfl rfl g148) (F.nil ?_)
           cases hE_4
           refine Nrm.only [0, 3, 4, 5, 8, 153] rfl ?_
           refine Nrm.pick [2, 3, 4, 5, 6] rfl rfl ?_
           exact hj_4 _ _ ⟨rfl, rfl⟩
          ·replace hE_4 := if_ff g148 hE_4
           obtain ⟨t151, h151, hE_4⟩ := bind_some hE_4
           refine Tri.reg (l := List.range 14) rfl ?_
           refine F.qn rfl (r_move rfl) (F.qn rfl (r_move rfl) (F.qn rfl (r_neqB Try.underlying4 rfl rfl) (F.qn rfl (r_move rfl) (F.qg rfl g143 (r_move rfl) ?_))))
           refine F.qg rfl g143 (r_move rfl) (F.qg rfl g143 (r_neqB Try.underlying4 rfl rfl) (F.qn rfl (r_pickf rfl rfl g143) (F.qn rfl (r_move rfl) (F.qg rfl g148 (r_move rfl) (F.qg rfl g148 (r_move rfl) ?_)))))
           refine F.qc rfl rfl rfl (wg rfl rfl rfl g148) (q_callF (xs := _) rfl ok70 rfl rfl (fun w hw => laws_rTable.ok h151 w ((rd_sl (i := 1) rfl) w hw) ((rd_sl (i := 0) rfl) w hw))) ?_
           refine F.qg rfl g148 (r_not rfl) (F.qn rfl (r_pickf rfl rfl g148) (F.nil ?_))
           cases hE_4
           refine Nrm.only [0, 3, 4, 5, 8, 153] rfl ?_
           refine Nrm.pick [2, 3, 4, 5, 6] rfl rfl ?_
           exact hj_4 _ _ ⟨rfl, rfl⟩
      ·rcases Bool.eq_false_or_eq_true (t100_1 != t105_1) with g111 | g111
       ·replace hE_3 := if_tt g111 hE_3
        refine Tri.reg (l := List.range 22) rfl ?_
        refine F.qn rfl (r_move rfl) (F.qn rfl (r_move rfl) (F.qn rfl (r_neqB Try.underlying4 rfl rfl) (F.qn rfl (r_move rfl) ?_)))
        iterate 3 refine F.skf rfl g111 ?_
        refine F.qn rfl (r_pick rfl rfl g111) (F.qn rfl (r_move rfl) ?_)
        iterate 3 refine F.skf rfl rfl ?_
        refine F.qn rfl (r_pick rfl rfl rfl) (F.qn rfl (r_move rfl) (F.skf rfl rfl (F.skf rfl rfl ?_)))
        iterate 4 refine F.sk rfl rfl rfl (wanted_undef rfl rfl rfl) ?_
        refine F.skf rfl rfl (F.qn rfl (r_pick rfl rfl rfl) (F.nil ?_))
        cases hE_3
        refine Nrm.only [0, 3, 4, 5, 8, 129] rfl ?_
        refine Nrm.pick [0, 1, 2, 3, 4] rfl rfl ?_
        exact hj_3 _ _ ⟨rfl, rfl⟩
       ·replace hE_3 := if_ff g111 hE_3
        rcases Bool.eq_false_or_eq_true (t100_2 != t105_2) with g116 | g116
        ·replace hE_3 := if_tt g116 hE_3
         refine Tri.reg (l := List.range 22) rfl ?_
         refine F.qn rfl (r_move rfl) (F.qn rfl (r_move rfl) (F.qn rfl (r_neqB Try.underlying4 rfl rfl) ?_))
         refine F.qn rfl (r_move rfl) (F.qg rfl g111 (r_move rfl) (F.qg rfl g111 (r_move rfl) (F.qg rfl g111 (r_neqB Try.underlying4 rfl rfl) (F.qn rfl (r_pickf rfl rfl g111) (F.qn rfl (r_move rfl) ?_)))))
         iterate 3 refine F.skf rfl g116 ?_
         refine F.qn rfl (r_pick rfl rfl g116) (F.qn rfl (r_move rfl) (F.skf rfl rfl (F.skf rfl rfl ?_)))
         iterate 4 refine F.sk rfl rfl rfl (wanted_undef rfl rfl rfl) ?_
         refine F.skf rfl rfl (F.qn rfl (r_pick rfl rfl rfl) (F.nil ?_))
         cases hE_3
         refine Nrm.only [0, 3, 4, 5, 8, 129] rfl ?_
         refine Nrm.pick [0, 1, 2, 3, 4] rfl rfl ?_
         exact hj_3 _ _ ⟨rfl, rfl⟩
        ·replace hE_3 := if_ff g116 hE_3
         rcases Bool.eq_false_or_eq_true (t100_2 != t51_2) with g121 | g121
         ·replace hE_3 := if_tt g121 hE_3
          refine Tri.reg (l := List.range 22) rfl ?_
          refine F.qn rfl (r_move rfl) (F.qn rfl (r_move rfl) (F.qn rfl (r_neqB Try.underlying4 rfl rfl) (F.qn rfl (r_move rfl) ?_)))
          refine F.qg rfl g111 (r_move rfl) (F.qg rfl g111 (r_move rfl) (F.qg rfl g111 (r_neqB Try.underlying4 rfl rfl) (F.qn rfl (r_pickf rfl rfl g111) (F.qn rfl (r_move rfl) (F.qg rfl g116 (r_move rfl) ?_)))))
          refine F.qg rfl g116 (r_move rfl) (F.qg rfl g116 (r_neqB Try.underlying4 rfl rfl) (F.qn rfl (r_pickf rfl rfl g116) (F.qn rfl (r_move rfl) (F.skf rfl g121 (F.skf rfl g121 ?_)))))
          iterate 4 refine F.sk rfl rfl rfl (wanted_undef rfl rfl rfl) ?_
          refine F.skf rfl g121 (F.qn rfl (r_pick rfl rfl g121) (F.nil ?_))
          cases hE_3
          refine Nrm.only [0, 3, 4, 5, 8, 129] rfl ?_
          refine Nrm.pick [0, 1, 2, 3, 4] rfl rfl ?_
          exact hj_3 _ _ ⟨rfl, rfl⟩
         ·replace hE_3 := if_ff g121 hE_3
          rcases Bool.eq_false_or_eq_true (t51_2) with g123 | g123
          ·replace hE_3 := if_tt g123 hE_3
           obtain ⟨t126, h126, hE_3⟩ := bind_some hE_3
           refine Tri.reg (l := List.range 22) rfl ?_
           refine F.qn rfl (r_move rfl) (F.qn rfl (r_move rfl) (F.qn rfl (r_neqB Try.underlying4 rfl rfl) (F.qn rfl (r_move rfl) (F.qg rfl g111 (r_move rfl) (F.qg rfl g111 (r_move rfl) ?_)))))
           refine F.qg rfl g111 (r_neqB Try.underlying4 rfl rfl) (F.qn rfl (r_pickf rfl rfl g111) (F.qn rfl (r_move rfl) (F.qg rfl g116 (r_move rfl) (F.qg rfl g116 (r_move rfl) (F.qg rfl g116 (r_neqB Try.underlying4 rfl rfl) ?_)))))
           refine F.qn rfl (r_pickf rfl rfl g116) (F.qn rfl (r_move rfl) (F.qg rfl g121 (r_move rfl) (F.qg rfl g121 (r_move rfl) (F.qg rfl g123 (r_move rfl) (F.qg rfl g123 (r_move rfl) ?_)))))
           refine F.qc rfl rfl rfl (wg rfl rfl rfl g123) (q_callF (xs := _) rfl ok63 rfl rfl (fun w hw => laws_rHas.ok h126 w ((rd_sl (i := 4) rfl) w hw))) ?_
           refine F.qg rfl g123 (r_eqlB Try.underlying4 rfl rfl) (F.qg rfl g121 (r_pick rfl rfl g123) (F.qn rfl (r_pickf rfl rfl g121) (F.nil ?_)))
           cases hE_3
           refine Nrm.only [0, 3, 4, 5, 8, 129] rfl ?_
           refine Nrm.pick [0, 1, 2, 3, 4] rfl rfl ?_
           exact hj_3 _ _ ⟨rfl, rfl⟩
          ·replace hE_3 := if_ff g123 hE_3
           refine Tri.reg (l := List.range 22) rfl ?_
           refine F.qn rfl (r_move rfl) (F.qn rfl (r_move rfl) (F.qn rfl (r_neqB Try.underlying4 rfl rfl) (F.qn rfl (r_move rfl) ?_)))
           refine F.qg rfl g111 (r_move rfl) (F.qg rfl g111 (r_move rfl) (F.qg rfl g111 (r_neqB Try.underlying4 rfl rfl) (F.qn rfl (r_pickf rfl rfl g111) (F.qn rfl (r_move rfl) (F.qg rfl g116 (r_move rfl) ?_)))))
           refine F.qg rfl g116 (r_move rfl) (F.qg rfl g116 (r_neqB Try.underlying4 rfl rfl) (F.qn rfl (r_pickf rfl rfl g116) (F.qn rfl (r_move rfl) (F.qg rfl g121 (r_move rfl) (F.qg rfl g121 (r_move rfl) ?_)))))
           iterate 4 refine F.skf rfl g123 ?_
           refine F.qg rfl g121 (r_pickf rfl rfl g123) (F.qn rfl (r_pickf rfl rfl g121) (F.nil ?_))
           cases hE_3
           refine Nrm.only [0, 3, 4, 5, 8, 129] rfl ?_
           refine Nrm.pick [0, 1, 2, 3, 4] rfl rfl ?_
           exact hj_3 _ _ ⟨rfl, rfl⟩
    ·rcases Bool.eq_false_or_eq_true (t76_2 != t81_2) with g87 | g87
     ·replace hE_2 := if_tt g87 hE_2
      refine Tri.reg (l := List.range 14) rfl ?_
      refine F.qn rfl (r_move rfl) (F.qn rfl (r_move rfl) (F.qn rfl (r_neqB Try.underlying4 rfl rfl) (F.qn rfl (r_move rfl) ?_)))
      iterate 3 refine F.skf rfl g87 ?_
      refine F.qn rfl (r_pick rfl rfl g87) (F.qn rfl (r_move rfl) ?_)
      iterate 4 refine F.skf rfl rfl ?_
      refine F.qn rfl (r_pick rfl rfl rfl) (F.nil ?_)
      cases hE_2
      refine Nrm.only [0, 3, 4, 5, 8, 97] rfl ?_
      refine Nrm.pick [2, 3, 4, 5, 1] rfl rfl ?_
      exact hj_2 _ _ ⟨rfl, rfl⟩
     ·replace hE_2 := if_ff g87 hE_2
      rcases Bool.eq_false_or_eq_true (t76_2 != t51_2) with g92 | g92
      ·replace hE_2 := if_tt g92 hE_2
       refine Tri.reg (l := List.range 14) rfl ?_
       refine F.qn rfl (r_move rfl) (F.qn rfl (r_move rfl) (F.qn rfl (r_neqB Try.underlying4 rfl rfl) ?_))
       refine F.qn rfl (r_move rfl) (F.qg rfl g87 (r_move rfl) (F.qg rfl g87 (r_move rfl) (F.qg rfl g87 (r_neqB Try.underlying4 rfl rfl) (F.qn rfl (r_pickf rfl rfl g87) (F.qn rfl (r_move rfl) ?_)))))
       iterate 4 refine F.skf rfl g92 ?_
       refine F.qn rfl (r_pick rfl rfl g92) (F.nil ?_)
       cases hE_2
       refine Nrm.only [0, 3, 4, 5, 8, 97] rfl ?_
       refine Nrm.pick [2, 3, 4, 5, 1] rfl rfl ?_
       exact hj_2 _ _ ⟨rfl, rfl⟩
      ·replace hE_2 := if_ff g92 hE_2
       obtain ⟨t95, h95, hE_2⟩ := bind_some hE_2
       refine Tri.reg (l := List.range 14) rfl ?_
       refine F.qn rfl (r_move rfl) (F.qn rfl (r_move rfl) (F.qn rfl (r_neqB Try.underlying4 rfl rfl) (F.qn rfl (r_move rfl) (F.qg rfl g87 (r_move rfl) ?_))))
       refine F.qg rfl g87 (r_move rfl) (F.qg rfl g87 (r_neqB Try.underlying4 rfl rfl) (F.qn rfl (r_pickf rfl rfl g87) (F.qn rfl (r_move rfl) (F.qg rfl g92 (r_move rfl) (F.qg rfl g92 (r_move rfl) ?_)))))
       refine F.qc rfl rfl rfl (wg rfl rfl rfl g92) (q_callF (xs := _) rfl ok51 rfl rfl (fun w hw => laws_rInts.ok h95 w ((rd_sl (i := 1) rfl) w hw) ((rd_sl (i := 0) rfl) w hw))) ?_
       refine F.qg rfl g92 (r_not rfl) (F.qn rfl (r_pickf rfl rfl g92) (F.nil ?_))
       cases hE_2
       refine Nrm.only [0, 3, 4, 5, 8, 97] rfl ?_
       refine Nrm.pick [2, 3, 4, 5, 1] rfl rfl ?_
       exact hj_2 _ _ ⟨rfl, rfl⟩
  ·rcases Bool.eq_false_or_eq_true (t51_2 != t56_2) with g62 | g62
   ·replace hE_1 := if_tt g62 hE_1
    refine Tri.reg (l := List.range 15) rfl ?_
    refine F.qn rfl (r_move rfl) (F.qn rfl (r_move rfl) (F.qn rfl (r_neqB Try.underlying4 rfl rfl) (F.qn rfl (r_move rfl) ?_)))
    iterate 4 refine F.skf rfl g62 ?_
    refine F.qn rfl (r_pick rfl rfl g62) (F.qn rfl (r_move rfl) ?_)
    iterate 4 refine F.skf rfl rfl ?_
    refine F.qn rfl (r_pick rfl rfl rfl) (F.nil ?_)
    cases hE_1
    refine Nrm.only [0, 3, 4, 5, 73] rfl ?_
    refine Nrm.pick [2, 3, 4, 1] rfl rfl ?_
    exact hj_1 _ _ ⟨rfl, rfl⟩
   ·replace hE_1 := if_ff g62 hE_1
    obtain ⟨t65, h65, hE_1⟩ := bind_some hE_1
    rcases Bool.eq_false_or_eq_true (t51_2 != t65) with g68 | g68
    ·replace hE_1 := if_tt g68 hE_1
     refine Tri.reg (l := List.range 15) rfl ?_
     refine F.qn rfl (r_move rfl) (F.qn rfl (r_move rfl) (F.qn rfl (r_neqB Try.underlying4 rfl rfl) (F.qn rfl (r_move rfl) (F.qg rfl g62 (r_move rfl) (F.qg rfl g62 (r_loadA ta85 ti85 rfl rfl (fun w hw => (box_cells (i := 2) rfl w hw))) ?_)))))
     refine F.qc rfl rfl rfl (wg rfl rfl rfl g62) (q_callF (xs := _) rfl ok69 rfl rfl (fun w hw => impl_IsWorlds.ok h65 w ((rd_sl (i := 3) rfl) w hw) ((rd_sl (i := 4) rfl) w hw))) ?_
     refine F.qg rfl g62 (r_neqB Try.underlying4 rfl rfl) (F.qn rfl (r_pickf rfl rfl g62) (F.qn rfl (r_move rfl) ?_))
     iterate 4 refine F.skf rfl g68 ?_
     refine F.qn rfl (r_pick rfl rfl g68) (F.nil ?_)
     cases hE_1
     refine Nrm.only [0, 3, 4, 5, 73] rfl ?_
     refine Nrm.pick [2, 3, 4, 1] rfl rfl ?_
     exact hj_1 _ _ ⟨rfl, rfl⟩
    ·replace hE_1 := if_ff g68 hE_1
     obtain ⟨t71, h71, hE_1⟩ := bind_some hE_1
     refine Tri.reg (l := List.range 15) rfl ?_
     refine F.qn rfl (r_move rfl) (F.qn rfl (r_move rfl) (F.qn rfl (r_neqB Try.underlying4 rfl rfl) (F.qn rfl (r_move rfl) (F.qg rfl g62 (r_move rfl) (F.qg rfl g62 (r_loadA ta85 ti85 rfl rfl (fun w hw => (box_cells (i := 2) rfl w hw))) ?_)))))
     refine F.qc rfl rfl rfl (wg rfl rfl rfl g62) (q_callF (xs := _) rfl ok69 rfl rfl (fun w hw => impl_IsWorlds.ok h65 w ((rd_sl (i := 3) rfl) w hw) ((rd_sl (i := 4) rfl) w hw))) ?_
     refine F.qg rfl g62 (r_neqB Try.underlying4 rfl rfl) (F.qn rfl (r_pickf rfl rfl g62) (F.qn rfl (r_move rfl) (F.qg rfl g68 (r_move rfl) (F.qg rfl g68 (r_move rfl) ?_))))
     refine F.qc rfl rfl rfl (wg rfl rfl rfl g68) (q_callF (xs := _) rfl ok70 rfl rfl (fun w hw => laws_rTable.ok h71 w ((rd_sl (i := 1) rfl) w hw) ((rd_sl (i := 0) rfl) w hw))) ?_
     refine F.qg rfl g68 (r_not rfl) (F.qn rfl (r_pickf rfl rfl g68) (F.nil ?_))
     cases hE_1
     refine Nrm.only [0, 3, 4, 5, 73] rfl ?_
     refine Nrm.pick [2, 3, 4, 1] rfl rfl ?_
     exact hj_1 _ _ ⟨rfl, rfl⟩


def spec_l2Close.l1 (k : Nat) (a0_2 : List Int) (t11 : List Int) : Nat → Int → Int → Option (Int)
 | 0, _, _ => none
 | n + 1, x7, x8 => (if (decide (x8 < (t11.length : Int))) = true then (rdl t11 x8).bind fun t24 => (rdl a0_2 t24).bind fun t26 => spec_l2Close.l1 k a0_2 t11 n (bor x7 t26) (w64 (x8 + 1)) else some x7)

def spec_l2Close.l0 (k : Nat) (a0_0 : Int) (a0_1 : List (Int × Int × Int)) (a0_2 : List Int) : Nat → Int → Option ((Unit) ⊕ (Int × (List Int)))
 | 0, _ => none
 | n + 1, x1 => (spec_l2Reach.f k a0_0 a0_1 a0_2 0 x1).bind fun t11 => (spec_l2Close.l1 k a0_2 t11 k x1 0).bind fun x7 => (if (x7 == x1) = true then some (Sum.inr (x1, t11)) else spec_l2Close.l0 k a0_0 a0_1 a0_2 n x7)

def spec_l2Close.f (k : Nat) (a0_0 : Int) (a0_1 : List (Int × Int × Int)) (a0_2 : List Int) (a1 : Int) : Option (Int × (List Int)) := (spec_l2Close.l0 k a0_0 a0_1 a0_2 k a1).bind fun s => Lr s some fun _ => none


def spec_l2Colours.l0 (k : Nat) (a0 : Int) : Nat → (List (Int)) → Int → Option ((List (Int)))
 | 0, _, _ => none
 | n + 1, x3, x4 => (if (decide (x4 < 6)) = true then if ¬ x4 < 0 then ((if ((band (shr a0 x4) 1) == 1) = true then if (x3 ++ ([x4] : List (Int))).length < 1099511627776 then some (x3 ++ ([x4] : List (Int))) else none else some x3)).bind fun y3 => spec_l2Colours.l0 k a0 n y3 (w64 (x4 + 1)) else none else some x3)

def spec_l2Colours.f (k : Nat) (a0 : Int) : Option ((List Int)) := (spec_l2Colours.l0 k a0 k ([] : List (Int)) 0).bind fun x3 => some x3


def spec_l9Lay.l1 (k : Nat) (a1 : List Int) (a2 : List Int) : Nat → Int → (List (Int)) → Option ((List (Int)))
 | 0, _, _ => none
 | n + 1, x9, xq7_1_2r => (if (decide (x9 < (a2.length : Int))) = true then (rdl a2 x9).bind fun t32 => (rdl a2 x9).bind fun t38 => (rdl xq7_1_2r t38).bind fun t40 => (rdl a1 x9).bind fun t44 => if ¬ t44 < 0 then (rdl xq7_1_2r t32).bind fun t48 => spec_l9Lay.l1 k a1 a2 n (w64 (x9 + 1)) (xq7_1_2r.set t32.toNat (bor t40 (shl 1 t44))) else none else some xq7_1_2r)

def spec_l9Lay.l0 (k : Nat) (a0_0 : Int) : Nat → Int → (List (Int)) → Option ((List (Int)))
 | 0, _, _ => none
 | n + 1, x8, xq7_1_2 => (if (decide (x8 < a0_0)) = true then (rdl xq7_1_2 x8).bind fun t21 => spec_l9Lay.l0 k a0_0 n (w64 (x8 + 1)) (xq7_1_2.set x8.toNat 0) else some xq7_1_2)

def spec_l9Lay.f (k : Nat) (a0_0 : Int) (a0_1 : List (Int × Int × Int)) (a0_2 : List Int) (a1 : List Int) (a2 : List Int) : Option (Int × (List (Int × Int × Int)) × (List Int)) := (spec_l2Own.f k a0_0 a0_1 a0_2).bind fun (t11_1, t11_2, t11_3) => (spec_l9Lay.l0 k a0_0 k 0 t11_3).bind fun xq7_1_2 => (spec_l9Lay.l1 k a1 a2 k 0 xq7_1_2).bind fun xq7_1_2r => some (t11_1, t11_2, xq7_1_2r)


def spec_l9Place.l0 (k : Nat) (a0 : List Int) (a1 : Int) : Nat → Int → Option (Int)
 | 0, _ => none
 | n + 1, x5 => (rdl a0 x5).bind fun t8 => (if (t8 != a1) = true then spec_l9Place.l0 k a0 a1 n (w64 (x5 + 1)) else some x5)

def spec_l9Place.f (k : Nat) (a0 : List Int) (a1 : Int) : Option (Int) := (spec_l9Place.l0 k a0 a1 k 0).bind fun x5 => some x5


def spec_l9Fill.l1 (k : Nat) (a2 : List Int) (x12 : List (Int)) (t61 : List Int) : Nat → (List (Int)) → Int → Option ((List (Int)))
 | 0, _, _ => none
 | n + 1, x17, x19 => (if (decide (x19 < (t61.length : Int))) = true then (rdl t61 x19).bind fun t73 => (spec_l9Place.f k a2 t73).bind fun t75 => (rdl x12 t75).bind fun t76 => if (x17 ++ ([t76] : List (Int))).length < 1099511627776 then spec_l9Fill.l1 k a2 x12 t61 n (x17 ++ ([t76] : List (Int))) (w64 (x19 + 1)) else none else some x17)

def spec_l9Fill.l0 (k : Nat) (a0_0 : Int) (a0_1 : List (Int × Int × Int)) (a0_2 : List Int) (a2 : List Int) (a3 : List Int) (a4 : Bool) : Nat → Int → (List (Int)) → Int → Option ((List (Int)))
 | 0, _, _, _ => none
 | n + 1, x11, x12, x13 => (if (decide (x13 < (a2.length : Int))) = true then (rdl a2 x13).bind fun t31 => if ¬ t31 < 0 then ((if a4 = true then some 0 else some (bclr x11 (shl 1 t31)))).bind fun y14 => (spec_l9Lay.f k a0_0 a0_1 a0_2 a2 x12).bind fun (t41_1, t41_2, t41_3) => (spec_l2Close.f k t41_1 t41_2 t41_3 y14).bind fun (t43_1, t43_2) => (rdl a3 x13).bind fun t50 => if ¬ (t43_2.length : Int) = 0 then (rdl t43_2 (rem t50 (t43_2.length : Int))).bind fun t55 => if (x12 ++ ([t55] : List (Int))).length < 1099511627776 then spec_l9Fill.l0 k a0_0 a0_1 a0_2 a2 a3 a4 n (bclr x11 (shl 1 t31)) (x12 ++ ([t55] : List (Int))) (w64 (x13 + 1)) else none else none else none else some x12)

def spec_l9Fill.f (k : Nat) (a0_0 : Int) (a0_1 : List (Int × Int × Int)) (a0_2 : List Int) (a1 : Int) (a2 : List Int) (a3 : List Int) (a4 : Bool) : Option ((List Int)) := (spec_l9Fill.l0 k a0_0 a0_1 a0_2 a2 a3 a4 k a1 ([] : List (Int)) 0).bind fun x12 => (spec_l2Colours.f k a1).bind fun t61 => (spec_l9Fill.l1 k a2 x12 t61 k ([] : List (Int)) 0).bind fun x17 => some x17


def laws_vInts.l0 (k : Nat) (a0 : List Int) (a1 : List Int) : Nat → Int → Option ((Unit) ⊕ (Bool))
 | 0, _ => none
 | n + 1, x5 => (if (decide (x5 < (a0.length : Int))) = true then (rdl a0 x5).bind fun t19 => (rdl a1 x5).bind fun t23 => (if (t19 != t23) = true then some (Sum.inr false) else laws_vInts.l0 k a0 a1 n (w64 (x5 + 1))) else some (Sum.inl ()))

def laws_vInts.f (k : Nat) (a0 : List Int) (a1 : List Int) : Option (Bool) := (if ((a0.length : Int) != (a1.length : Int)) = true then some false else (laws_vInts.l0 k a0 a1 k 0).bind fun s => Lr s some fun _ => some true)

end Go.Proofs
