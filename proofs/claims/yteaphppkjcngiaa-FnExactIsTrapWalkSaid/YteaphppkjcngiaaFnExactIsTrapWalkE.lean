/- A part of the proof of FnExactIsTrapWalk: what the functions of the program compute, walked on the model. No condition. -/
import Derived.Test.YteaphppkjcngiaaFnExactIsTrapWalkD
/- loop.example/g01158/laws.FnExactIsTrapWalk -/
namespace Go.Proofs
open Go Go.Ga
set_option linter.unusedVariables false
set_option maxRecDepth 100000
set_option maxHeartbeats 4000000
def laws_FnExactIsTrapWalk.f (k : Nat) (a0_0 : Int) (a0_1 : List (Int × Int × Int)) (a0_2 : List Int) (a0_3 : List Int) (a1 : List Int) : Option (Bool) := (if (decide ((a1.length : Int) > 1048576)) = true then some true else (laws_szTrap.f k a0_0 a0_1 a0_2 a0_3 1048576).bind fun t17 => (if (decide (t17 < 0)) = true then some true else (laws_toTrap.f k a0_0 a0_1 a0_2 a0_3).bind fun (t22_1, t22_2, t22_3, t22_4) => (laws_toIntS.f k a1).bind fun t24 => (spec_IsTrapWalk.f k t22_1 t22_2 t22_3 t22_4 t24).bind fun (t25_1, t25_2) => (laws_toTrap.f k a0_0 a0_1 a0_2 a0_3).bind fun (t29_1, t29_2, t29_3, t29_4) => (laws_toIntS.f k a1).bind fun t31 => (impl_IsTrapWalk.f k t29_1 t29_2 t29_3 t29_4 t31).bind fun (t35_1, t35_2) => ((if (t35_1 != t25_1) = true then some true else some (t35_2 != t25_2))).bind fun y45 => (if y45 = true then some false else (laws_toTrap.f k a0_0 a0_1 a0_2 a0_3).bind fun (t48_1, t48_2, t48_3, t48_4) => (laws_eqTrap.f k t29_1 t29_2 t29_3 t29_4 t48_1 t48_2 t48_3 t48_4).bind fun t49 => (if (!t49) = true then some false else (laws_toIntS.f k a1).bind fun t53 => (laws_eqIntS.f k t31 t53).bind fun t54 => (if (!t54) = true then some false else some true)))))

theorem laws_FnExactIsTrapWalk.ok {k : Nat}  {a0_0 : Int} {a0_1 : List (Int × Int × Int)} {a0_2 : List Int} {a0_3 : List Int} {a1 : List Int} {r0 : Bool} (h : laws_FnExactIsTrapWalk.f k a0_0 a0_1 a0_2 a0_3 a1 = some r0) (w : World) {va0_1 : Value} {va0_2 : Value} {va0_3 : Value} {va1 : Value} (hr_a0_1 : Rd w va0_1 a0_1) (hr_a0_2 : Rd w va0_2 a0_2) (hr_a0_3 : Rd w va0_3 a0_3) (hr_a1 : Rd w va1 a1) :
    Calls Try.prog 11 ([.agg ([.int .i64 a0_0, va0_1, va0_2, va0_3].toArray), va1] : List Value).toArray w (fun e w' => e = .returned (.bool r0) ∧ Ext w w') := by
  unfold laws_FnExactIsTrapWalk.f at h
  have hl_va0_1 := hr_a0_1.len
  have hl_va0_2 := hr_a0_2.len
  have hl_va0_3 := hr_a0_3.len
  have hl_va1 := hr_a1.len
  refine Calls.of_tri (N := 56) Try.func11 rfl rfl rfl (Sep.nil (M := noM)) ?_
  refine Tri.seq ?_
  refine Tri.reg (l := [0, 1]) rfl ?_
  refine F.m rfl rfl rfl (wanted_none rfl) (m_boxG rfl rfl) ?_
  rintro _ _ ⟨b2_1, rfl, rfl⟩
  refine F.q rfl rfl rfl (wanted_none rfl) (r_assign rfl) ?_
  refine F.nil ?_
  refine Nrm.seq ?_
  refine Tri.seq ?_
  refine Tri.seq ?_
  refine Tri.reg (l := [0, 1, 2]) rfl ?_
  refine F.q rfl rfl rfl (wanted_none rfl) (r_move rfl) ?_
  refine F.q rfl rfl rfl (wanted_none rfl) (r_len Try.underlying30 rfl hl_va1) ?_
  refine F.q rfl rfl rfl (wanted_none rfl) (r_gtr rfl rfl) ?_
  refine F.nil ?_
  refine Nrm.seq ?_
  refine Tri.cond (b := decide ((a1.length : Int) > 1048576)) rfl (fun g_1 => ?_) (fun g_1 => ?_)
  · replace h := if_tt g_1 h
    refine Tri.seq ?_
    refine Tri.reg (l := [0]) rfl ?_
    refine F.q rfl rfl rfl (wanted_none rfl) (r_assign rfl) ?_
    refine F.nil ?_
    refine Nrm.seq ?_
    refine Tri.ret ?_
    refine Rtn.then ?_
    cases h
    exact Rtn.body (.tmp rfl .nil) (fun w hw => ⟨rfl, hw.ext⟩)
  · replace h := if_ff g_1 h
    refine Tri.skip ?_
    refine Nrm.seq ?_
    refine Tri.seq ?_
    refine Tri.reg (l := [0]) rfl ?_
    refine F.q rfl rfl rfl (wanted_none rfl) (r_assign rfl) ?_
    refine F.nil ?_
    refine Nrm.seq ?_
    refine Tri.seq ?_
    obtain ⟨t17, h17, h⟩ := bind_some h
    refine Tri.reg (l := [0, 1, 2, 3]) rfl ?_
    refine F.q rfl rfl rfl (wanted_none rfl) (r_loadA ta34 ti34 rfl rfl (fun w hw => (box_cells (i := 0) rfl w hw))) ?_
    refine F.q rfl rfl rfl (wanted_none rfl) (r_move rfl) ?_
    refine F.qc rfl rfl rfl (wanted_none rfl) (q_callF (xs := _) rfl ok19 rfl rfl (fun w hw => laws_szTrap.ok h17 w ((fun _ hw => hr_a0_1.sep hw) w hw) ((fun _ hw => hr_a0_2.sep hw) w hw) ((fun _ hw => hr_a0_3.sep hw) w hw))) ?_
    refine F.q rfl rfl rfl (wanted_none rfl) (r_assign rfl) ?_
    refine F.nil ?_
    refine Nrm.seq ?_
    refine Tri.seq ?_
    refine Tri.seq ?_
    refine Tri.reg (l := [0, 1]) rfl ?_
    refine F.q rfl rfl rfl (wanted_none rfl) (r_move rfl) ?_
    refine F.q rfl rfl rfl (wanted_none rfl) (r_lss rfl rfl) ?_
    refine F.nil ?_
    refine Nrm.seq ?_
    refine Tri.cond (b := decide (t17 < 0)) rfl (fun g_2 => ?_) (fun g_2 => ?_)
    · replace h := if_tt g_2 h
      refine Tri.seq ?_
      refine Tri.reg (l := [0]) rfl ?_
      refine F.q rfl rfl rfl (wanted_none rfl) (r_assign rfl) ?_
      refine F.nil ?_
      refine Nrm.seq ?_
      refine Tri.ret ?_
      refine Rtn.then ?_
      cases h
      exact Rtn.body (.tmp rfl .nil) (fun w hw => ⟨rfl, hw.ext⟩)
    · replace h := if_ff g_2 h
      refine Tri.skip ?_
      refine Nrm.seq ?_
      refine Tri.seq ?_
      obtain ⟨⟨t22_1, t22_2, t22_3, t22_4⟩, h22, h⟩ := bind_some h
      obtain ⟨t24, h24, h⟩ := bind_some h
      obtain ⟨⟨t25_1, t25_2⟩, h25, h⟩ := bind_some h
      refine Tri.reg (l := [0, 1, 2, 3, 4, 5, 6, 7, 8, 9]) rfl ?_
      refine F.q rfl rfl rfl (wanted_none rfl) (r_loadA ta34 ti34 rfl rfl (fun w hw => (box_cells (i := 0) rfl w hw))) ?_
      refine F.m rfl rfl rfl (wanted_none rfl) (m_callF (xs := _) rfl ok21 rfl rfl (fun w hw => laws_toTrap.ok h22 w ((fun _ hw => hr_a0_1.sep hw) w hw) ((fun _ hw => hr_a0_2.sep hw) w hw) ((fun _ hw => hr_a0_3.sep hw) w hw))) ?_
      rintro _ _ ⟨_, ⟨v22_1, S22_1, v22_2, S22_2, v22_3, S22_3, rfl, hl_v22_1, hl_v22_2, hl_v22_3, rfl⟩, rfl⟩
      refine F.q rfl rfl rfl (wanted_none rfl) (r_move rfl) ?_
      refine F.m rfl rfl rfl (wanted_none rfl) (m_callF (xs := _) rfl ok45 rfl rfl (fun w hw => laws_toIntS.ok h24 w ((fun _ hw => hr_a1.sep hw) w hw))) ?_
      rintro v24_1 _ ⟨_, ⟨S24_1, hl_v24_1, rfl⟩, rfl⟩
      refine F.qc rfl rfl rfl (wanted_none rfl) (q_callF (xs := _) rfl ok65 rfl rfl (fun w hw => spec_IsTrapWalk.ok h25 w ((rd_sl (i := 1) rfl) w hw) ((rd_sl (i := 2) rfl) w hw) ((rd_sl (i := 3) rfl) w hw) ((rd_sl (i := 0) rfl) w hw))) ?_
      refine F.q rfl rfl rfl (wanted_none rfl) (r_move rfl) ?_
      refine F.q rfl rfl rfl (wanted_none rfl) (r_extract rfl rfl) ?_
      refine F.q rfl rfl rfl (wanted_none rfl) (r_extract rfl rfl) ?_
      refine F.q rfl rfl rfl (wanted_none rfl) (r_assign rfl) ?_
      refine F.q rfl rfl rfl (wanted_none rfl) (r_assign rfl) ?_
      refine F.nil ?_
      refine Nrm.seq ?_
      refine Tri.seq ?_
      obtain ⟨⟨t29_1, t29_2, t29_3, t29_4⟩, h29, h⟩ := bind_some h
      refine Tri.reg (l := [0, 1, 2, 3]) rfl ?_
      refine F.q rfl rfl rfl (wanted_none rfl) (r_loadA ta34 ti34 rfl rfl (fun w hw => (box_cells (i := 4) rfl w hw))) ?_
      refine F.m rfl rfl rfl (wanted_none rfl) (m_callF (xs := _) rfl ok21 rfl rfl (fun w hw => laws_toTrap.ok h29 w ((fun _ hw => hr_a0_1.sep hw) w hw) ((fun _ hw => hr_a0_2.sep hw) w hw) ((fun _ hw => hr_a0_3.sep hw) w hw))) ?_
      rintro _ _ ⟨_, ⟨v29_1, S29_1, v29_2, S29_2, v29_3, S29_3, rfl, hl_v29_1, hl_v29_2, hl_v29_3, rfl⟩, rfl⟩
      refine F.m rfl rfl rfl (wanted_none rfl) (m_alloc ti39) ?_
      rintro _ _ ⟨b8_1, rfl, rfl⟩
      refine F.ef0 rfl rfl (wanted_none rfl) (d_storeG0 (i := 0) (cs2 := [.int .i64 t29_1, v29_1, v29_2, v29_3]) ti39 rfl rfl rfl rfl rfl (Nat.le_of_ble_eq_true rfl) (lf_cons rfl (lf_cons (sl_leaf hl_v29_1) (lf_cons (sl_leaf hl_v29_2) (lf_cons (sl_leaf hl_v29_3) lf_nil))))) ?_
      rintro _ _ ⟨rfl, rfl⟩
      refine F.nil ?_
      refine Nrm.seq ?_
      refine Tri.seq ?_
      obtain ⟨t31, h31, h⟩ := bind_some h
      refine Tri.reg (l := [0, 1, 2]) rfl ?_
      refine F.q rfl rfl rfl (wanted_none rfl) (r_move rfl) ?_
      refine F.m rfl rfl rfl (wanted_none rfl) (m_callF (xs := _) rfl ok45 rfl rfl (fun w hw => laws_toIntS.ok h31 w ((fun _ hw => hr_a1.sep hw) w hw))) ?_
      rintro v31_1 _ ⟨_, ⟨S31_1, hl_v31_1, rfl⟩, rfl⟩
      refine F.q rfl rfl rfl (wanted_none rfl) (r_assign rfl) ?_
      refine F.nil ?_
      refine Nrm.seq ?_
      refine Tri.seq ?_
      obtain ⟨⟨t35_1, t35_2⟩, h35, h⟩ := bind_some h
      refine Tri.reg (l := [0, 1, 2, 3, 4, 5, 6, 7]) rfl ?_
      refine F.q rfl rfl rfl (wanted_none rfl) (r_loadA ta39 ti39 rfl rfl (fun w hw => (box_cells (i := 1) rfl w hw))) ?_
      refine F.q rfl rfl rfl (wanted_none rfl) (r_move rfl) ?_
      refine F.qc rfl rfl rfl (wanted_none rfl) (q_callF (xs := _) rfl ok66 rfl rfl (fun w hw => impl_IsTrapWalk.ok h35 w ((rd_sl (i := 2) rfl) w hw) ((rd_sl (i := 3) rfl) w hw) ((rd_sl (i := 4) rfl) w hw) ((rd_sl (i := 0) rfl) w hw))) ?_
      refine F.q rfl rfl rfl (wanted_none rfl) (r_move rfl) ?_
      refine F.q rfl rfl rfl (wanted_none rfl) (r_extract rfl rfl) ?_
      refine F.q rfl rfl rfl (wanted_none rfl) (r_extract rfl rfl) ?_
      refine F.q rfl rfl rfl (wanted_none rfl) (r_assign rfl) ?_
      refine F.q rfl rfl rfl (wanted_none rfl) (r_assign rfl) ?_
      refine F.nil ?_
      refine Nrm.seq ?_
      refine Tri.seq ?_
      refine Tri.seq ?_
      obtain ⟨y45, hE_1, h⟩ := bind_some h
      refine Tri.cut (fun e' C' => e' = [(1, va1), (2, .pointer (some ⟨b2_1, 0, none⟩)), (8, .pointer (some ⟨b8_1, 0, none⟩)), (9, v31_1), (45, .bool y45)] ∧ C' = Sep w noM [R.box b8_1 39 [.int .i64 t29_1, v29_1, v29_2, v29_3], R.box b2_1 34 [.int .i64 a0_0, va0_1, va0_2, va0_3], R.sl S29_1 v29_1 (t29_2 : List (Int × Int × Int)), R.sl S29_2 v29_2 (t29_3 : List (Int)), R.sl S29_3 v29_3 (t29_4 : List (Int)), R.sl S31_1 v31_1 (t31 : List (Int))]) ?_ (fun hj_1 => ?_)
      · rintro _ _ ⟨rfl, rfl⟩
        refine Nrm.seq ?_
        refine Tri.cond (b := y45) rfl (fun g_3 => ?_) (fun g_3 => ?_)
        · replace h := if_tt g_3 h
          refine Tri.seq ?_
          refine Tri.reg (l := [0]) rfl ?_
          refine F.q rfl rfl rfl (wanted_none rfl) (r_assign rfl) ?_
          refine F.nil ?_
          refine Nrm.seq ?_
          refine Tri.ret ?_
          refine Rtn.then ?_
          cases h
          exact Rtn.body (.tmp rfl .nil) (fun w hw => ⟨rfl, hw.ext⟩)
        · replace h := if_ff g_3 h
          refine Tri.skip ?_
          refine Nrm.seq ?_
          refine Tri.seq ?_
          refine Tri.seq ?_
          obtain ⟨⟨t48_1, t48_2, t48_3, t48_4⟩, h48, h⟩ := bind_some h
          obtain ⟨t49, h49, h⟩ := bind_some h
          refine Tri.drawA mixedT Sep.up [(0, true), (1, true), (2, false), (3, true), (4, true)] [] (by kernel_rfl) ?_
          refine S.q rfl rfl rfl (wanted_none rfl) (r_loadA ta39 ti39 rfl rfl (fun w hw => (box_cells (i := 0) rfl w hw))) ?_
          refine S.q rfl rfl rfl (wanted_none rfl) (r_loadA ta34 ti34 rfl rfl (fun w hw => (box_cells (i := 1) rfl w hw))) ?_
          refine S.m rfl rfl rfl (wanted_none rfl) (m_callF (xs := _) rfl ok21 rfl rfl (fun w hw => laws_toTrap.ok h48 w ((fun _ hw => hr_a0_1.sep hw) w hw) ((fun _ hw => hr_a0_2.sep hw) w hw) ((fun _ hw => hr_a0_3.sep hw) w hw))) ?_
          rintro _ _ ⟨_, ⟨v48_4, S48_4, v48_5, S48_5, v48_6, S48_6, rfl, hl_v48_4, hl_v48_5, hl_v48_6, rfl⟩, rfl⟩
          refine S.qc rfl rfl rfl (wanted_none rfl) (q_callF (xs := _) rfl ok23 rfl rfl (fun w hw => laws_eqTrap.ok h49 w ((rd_sl (i := 5) rfl) w hw) ((rd_sl (i := 6) rfl) w hw) ((rd_sl (i := 7) rfl) w hw) ((rd_sl (i := 0) rfl) w hw) ((rd_sl (i := 1) rfl) w hw) ((rd_sl (i := 2) rfl) w hw))) ?_
          refine S.q rfl rfl rfl (wanted_none rfl) (r_not rfl) ?_
          refine S.nil ?_
          refine F.nil ?_
          refine Nrm.seq ?_
          refine Tri.cond (b := !t49) rfl (fun g_4 => ?_) (fun g_4 => ?_)
          · replace h := if_tt g_4 h
            refine Tri.seq ?_
            refine Tri.reg (l := [0]) rfl ?_
            refine F.q rfl rfl rfl (wanted_none rfl) (r_assign rfl) ?_
            refine F.nil ?_
            refine Nrm.seq ?_
            refine Tri.ret ?_
            refine Rtn.then ?_
            cases h
            exact Rtn.body (.tmp rfl .nil) (fun w hw => ⟨rfl, hw.ext⟩)
          · replace h := if_ff g_4 h
            refine Tri.skip ?_
            refine Nrm.seq ?_
            refine Tri.seq ?_
            refine Tri.seq ?_
            obtain ⟨t53, h53, h⟩ := bind_some h
            obtain ⟨t54, h54, h⟩ := bind_some h
            refine Tri.reg (l := [0, 1, 2, 3, 4]) rfl ?_
            refine F.q rfl rfl rfl (wanted_none rfl) (r_move rfl) ?_
            refine F.q rfl rfl rfl (wanted_none rfl) (r_move rfl) ?_
            refine F.m rfl rfl rfl (wanted_none rfl) (m_callF (xs := _) rfl ok45 rfl rfl (fun w hw => laws_toIntS.ok h53 w ((fun _ hw => hr_a1.sep hw) w hw))) ?_
            rintro v53_1 _ ⟨_, ⟨S53_1, hl_v53_1, rfl⟩, rfl⟩
            refine F.qc rfl rfl rfl (wanted_none rfl) (q_callF (xs := _) rfl ok47 rfl rfl (fun w hw => laws_eqIntS.ok h54 w ((rd_sl (i := 9) rfl) w hw) ((rd_sl (i := 0) rfl) w hw))) ?_
            refine F.q rfl rfl rfl (wanted_none rfl) (r_not rfl) ?_
            refine F.nil ?_
            refine Nrm.seq ?_
            refine Tri.cond (b := !t54) rfl (fun g_5 => ?_) (fun g_5 => ?_)
            · replace h := if_tt g_5 h
              refine Tri.seq ?_
              refine Tri.reg (l := [0]) rfl ?_
              refine F.q rfl rfl rfl (wanted_none rfl) (r_assign rfl) ?_
              refine F.nil ?_
              refine Nrm.seq ?_
              refine Tri.ret ?_
              refine Rtn.then ?_
              cases h
              exact Rtn.body (.tmp rfl .nil) (fun w hw => ⟨rfl, hw.ext⟩)
            · replace h := if_ff g_5 h
              refine Tri.skip ?_
              refine Nrm.seq ?_
              refine Tri.seq ?_
              refine Tri.reg (l := [0]) rfl ?_
              refine F.q rfl rfl rfl (wanted_none rfl) (r_assign rfl) ?_
              refine F.nil ?_
              refine Nrm.seq ?_
              refine Tri.ret ?_
              cases h
              exact Rtn.body (.tmp rfl .nil) (fun w hw => ⟨rfl, hw.ext⟩)
      · rcases Bool.eq_false_or_eq_true (t35_1 != t25_1) with g41 | g41
        · replace hE_1 := if_tt g41 hE_1
          refine Tri.reg (l := [0, 1, 2, 3, 4, 5, 6, 7]) rfl ?_
          refine F.q rfl rfl rfl (wanted_none rfl) (r_move rfl) ?_
          refine F.q rfl rfl rfl (wanted_none rfl) (r_move rfl) ?_
          refine F.q rfl rfl rfl (wanted_none rfl) (r_neqB Try.underlying4 rfl rfl) ?_
          refine F.q rfl rfl rfl (wanted_none rfl) (r_move rfl) ?_
          refine F.sk rfl rfl rfl (wf rfl rfl rfl g41) ?_
          refine F.sk rfl rfl rfl (wf rfl rfl rfl g41) ?_
          refine F.sk rfl rfl rfl (wf rfl rfl rfl g41) ?_
          refine F.q rfl rfl rfl (wanted_none rfl) (r_pick rfl rfl g41) ?_
          refine F.nil ?_
          cases hE_1
          refine Nrm.only [1, 2, 8, 9, 45] rfl ?_
          refine Nrm.pick [1, 9, 2, 3, 4, 0] rfl rfl ?_
          exact hj_1 _ _ ⟨rfl, rfl⟩
        · replace hE_1 := if_ff g41 hE_1
          refine Tri.reg (l := [0, 1, 2, 3, 4, 5, 6, 7]) rfl ?_
          refine F.q rfl rfl rfl (wanted_none rfl) (r_move rfl) ?_
          refine F.q rfl rfl rfl (wanted_none rfl) (r_move rfl) ?_
          refine F.q rfl rfl rfl (wanted_none rfl) (r_neqB Try.underlying4 rfl rfl) ?_
          refine F.q rfl rfl rfl (wanted_none rfl) (r_move rfl) ?_
          refine F.q rfl rfl rfl (wg rfl rfl rfl g41) (r_move rfl) ?_
          refine F.q rfl rfl rfl (wg rfl rfl rfl g41) (r_move rfl) ?_
          refine F.q rfl rfl rfl (wg rfl rfl rfl g41) (r_neqB Try.underlying4 rfl rfl) ?_
          refine F.q rfl rfl rfl (wanted_none rfl) (r_pickf rfl rfl g41) ?_
          refine F.nil ?_
          cases hE_1
          refine Nrm.only [1, 2, 8, 9, 45] rfl ?_
          refine Nrm.pick [1, 9, 2, 3, 4, 0] rfl rfl ?_
          exact hj_1 _ _ ⟨rfl, rfl⟩

end Go.Proofs
