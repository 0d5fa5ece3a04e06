/- A part of the proof of FnExactStateBehind: what the functions of the program compute, walked on the model. No condition. -/
import Derived.Test.YteaphppkjcngiaaFnExactStateBehindD
/- loop.example/g01158/laws.FnExactStateBehind -/
namespace Go.Proofs
open Go Go.Ga
set_option linter.unusedVariables false
set_option maxRecDepth 100000
set_option maxHeartbeats 4000000
def laws_FnExactStateBehind.f (k : Nat) (a0_0 : Int) (a0_1 : List (Int × Int × Int)) (a0_2 : List Int) (a0_3 : List Int) (a1 : List Int) : Option (Bool) := (if (decide ((a1.length : Int) > 1048576)) = true then some true else (laws_szTrap.f k a0_0 a0_1 a0_2 a0_3 1048576).bind fun t19 => (if (decide (t19 < 0)) = true then some true else (laws_toTrap.f k a0_0 a0_1 a0_2 a0_3).bind fun (t24_1, t24_2, t24_3, t24_4) => (laws_toIntS.f k a1).bind fun t26 => (spec_StateBehind.f k t24_1 t24_2 t24_3 t24_4 t26).bind fun (t27_1, t27_2, t27_3) => (laws_toTrap.f k a0_0 a0_1 a0_2 a0_3).bind fun (t32_1, t32_2, t32_3, t32_4) => (laws_toIntS.f k a1).bind fun t34 => (impl_StateBehind.f k t32_1 t32_2 t32_3 t32_4 t34).bind fun (t38_1, t38_2, t38_3) => ((if (t38_1 != t27_1) = true then some true else (if (t38_2 != t27_2) = true then some true else some (t38_3 != t27_3)))).bind fun y54 => (if y54 = true then some false else (laws_toTrap.f k a0_0 a0_1 a0_2 a0_3).bind fun (t57_1, t57_2, t57_3, t57_4) => (laws_eqTrap.f k t32_1 t32_2 t32_3 t32_4 t57_1 t57_2 t57_3 t57_4).bind fun t58 => (if (!t58) = true then some false else (laws_toIntS.f k a1).bind fun t62 => (laws_eqIntS.f k t34 t62).bind fun t63 => (if (!t63) = true then some false else some true)))))

theorem laws_FnExactStateBehind.ok {k : Nat}  {a0_0 : Int} {a0_1 : List (Int × Int × Int)} {a0_2 : List Int} {a0_3 : List Int} {a1 : List Int} {r0 : Bool} (h : laws_FnExactStateBehind.f k a0_0 a0_1 a0_2 a0_3 a1 = some r0) (w : World) {va0_1 : Value} {va0_2 : Value} {va0_3 : Value} {va1 : Value} (hr_a0_1 : Rd w va0_1 a0_1) (hr_a0_2 : Rd w va0_2 a0_2) (hr_a0_3 : Rd w va0_3 a0_3) (hr_a1 : Rd w va1 a1) :
    Calls Try.prog 9 ([.agg ([.int .i64 a0_0, va0_1, va0_2, va0_3].toArray), va1] : List Value).toArray w (fun e w' => e = .returned (.bool r0) ∧ Ext w w') := by
  unfold laws_FnExactStateBehind.f at h
  have hl_va0_1 := hr_a0_1.len
  have hl_va0_2 := hr_a0_2.len
  have hl_va0_3 := hr_a0_3.len
  have hl_va1 := hr_a1.len
  refine Calls.of_tri (N := 65) Try.func9 rfl rfl rfl (Sep.nil (M := noM)) ?_
  refine Tri.seq ?_
  refine Tri.reg (l := [0, 1]) rfl ?_
  refine F.m rfl rfl rfl (wanted_none rfl) (m_boxG rfl rfl) ?_
  rintro _ _ ⟨b2_1, rfl, rfl⟩
  refine F.q rfl rfl rfl (wanted_none rfl) (r_assign rfl) ?_
  refine F.nil ?_
  refine Nrm.seq ?_
  refine Tri.seq ?_
  refine Tri.seq ?_
  refine Tri.reg (l := [0, 1, 2]) rfl ?_
  refine F.q rfl rfl rfl (wanted_none rfl) (r_move rfl) ?_
  refine F.q rfl rfl rfl (wanted_none rfl) (r_len Try.underlying30 rfl hl_va1) ?_
  refine F.q rfl rfl rfl (wanted_none rfl) (r_gtr rfl rfl) ?_
  refine F.nil ?_
  refine Nrm.seq ?_
  refine Tri.cond (b := decide ((a1.length : Int) > 1048576)) rfl (fun g_1 => ?_) (fun g_1 => ?_)
  · replace h := if_tt g_1 h
    refine Tri.seq ?_
    refine Tri.reg (l := [0]) rfl ?_
    refine F.q rfl rfl rfl (wanted_none rfl) (r_assign rfl) ?_
    refine F.nil ?_
    refine Nrm.seq ?_
    refine Tri.ret ?_
    refine Rtn.then ?_
    cases h
    exact Rtn.body (.tmp rfl .nil) (fun w hw => ⟨rfl, hw.ext⟩)
  · replace h := if_ff g_1 h
    refine Tri.skip ?_
    refine Nrm.seq ?_
    refine Tri.seq ?_
    refine Tri.reg (l := [0]) rfl ?_
    refine F.q rfl rfl rfl (wanted_none rfl) (r_assign rfl) ?_
    refine F.nil ?_
    refine Nrm.seq ?_
    refine Tri.seq ?_
    obtain ⟨t19, h19, h⟩ := bind_some h
    refine Tri.reg (l := [0, 1, 2, 3]) rfl ?_
    refine F.q rfl rfl rfl (wanted_none rfl) (r_loadA ta34 ti34 rfl rfl (fun w hw => (box_cells (i := 0) rfl w hw))) ?_
    refine F.q rfl rfl rfl (wanted_none rfl) (r_move rfl) ?_
    refine F.qc rfl rfl rfl (wanted_none rfl) (q_callF (xs := _) rfl ok19 rfl rfl (fun w hw => laws_szTrap.ok h19 w ((fun _ hw => hr_a0_1.sep hw) w hw) ((fun _ hw => hr_a0_2.sep hw) w hw) ((fun _ hw => hr_a0_3.sep hw) w hw))) ?_
    refine F.q rfl rfl rfl (wanted_none rfl) (r_assign rfl) ?_
    refine F.nil ?_
    refine Nrm.seq ?_
    refine Tri.seq ?_
    refine Tri.seq ?_
    refine Tri.reg (l := [0, 1]) rfl ?_
    refine F.q rfl rfl rfl (wanted_none rfl) (r_move rfl) ?_
    refine F.q rfl rfl rfl (wanted_none rfl) (r_lss rfl rfl) ?_
    refine F.nil ?_
    refine Nrm.seq ?_
    refine Tri.cond (b := decide (t19 < 0)) rfl (fun g_2 => ?_) (fun g_2 => ?_)
    · replace h := if_tt g_2 h
      refine Tri.seq ?_
      refine Tri.reg (l := [0]) rfl ?_
      refine F.q rfl rfl rfl (wanted_none rfl) (r_assign rfl) ?_
      refine F.nil ?_
      refine Nrm.seq ?_
      refine Tri.ret ?_
      refine Rtn.then ?_
      cases h
      exact Rtn.body (.tmp rfl .nil) (fun w hw => ⟨rfl, hw.ext⟩)
    · replace h := if_ff g_2 h
      refine Tri.skip ?_
      refine Nrm.seq ?_
      refine Tri.seq ?_
      obtain ⟨⟨t24_1, t24_2, t24_3, t24_4⟩, h24, h⟩ := bind_some h
      obtain ⟨t26, h26, h⟩ := bind_some h
      obtain ⟨⟨t27_1, t27_2, t27_3⟩, h27, h⟩ := bind_some h
      refine Tri.reg (l := [0, 1, 2, 3, 4, 5, 6, 7, 8, 9, 10, 11]) rfl ?_
      refine F.q rfl rfl rfl (wanted_none rfl) (r_loadA ta34 ti34 rfl rfl (fun w hw => (box_cells (i := 0) rfl w hw))) ?_
      refine F.m rfl rfl rfl (wanted_none rfl) (m_callF (xs := _) rfl ok21 rfl rfl (fun w hw => laws_toTrap.ok h24 w ((fun _ hw => hr_a0_1.sep hw) w hw) ((fun _ hw => hr_a0_2.sep hw) w hw) ((fun _ hw => hr_a0_3.sep hw) w hw))) ?_
      rintro _ _ ⟨_, ⟨v24_1, S24_1, v24_2, S24_2, v24_3, S24_3, rfl, hl_v24_1, hl_v24_2, hl_v24_3, rfl⟩, rfl⟩
      refine F.q rfl rfl rfl (wanted_none rfl) (r_move rfl) ?_
      refine F.m rfl rfl rfl (wanted_none rfl) (m_callF (xs := _) rfl ok45 rfl rfl (fun w hw => laws_toIntS.ok h26 w ((fun _ hw => hr_a1.sep hw) w hw))) ?_
      rintro v26_1 _ ⟨_, ⟨S26_1, hl_v26_1, rfl⟩, rfl⟩
      refine F.qc rfl rfl rfl (wanted_none rfl) (q_callF (xs := _) rfl ok44 rfl rfl (fun w hw => spec_StateBehind.ok h27 w ((rd_sl (i := 1) rfl) w hw) ((rd_sl (i := 2) rfl) w hw) ((rd_sl (i := 3) rfl) w hw) ((rd_sl (i := 0) rfl) w hw))) ?_
      refine F.q rfl rfl rfl (wanted_none rfl) (r_move rfl) ?_
      refine F.q rfl rfl rfl (wanted_none rfl) (r_extract rfl rfl) ?_
      refine F.q rfl rfl rfl (wanted_none rfl) (r_extract rfl rfl) ?_
      refine F.q rfl rfl rfl (wanted_none rfl) (r_extract rfl rfl) ?_
      refine F.q rfl rfl rfl (wanted_none rfl) (r_assign rfl) ?_
      refine F.q rfl rfl rfl (wanted_none rfl) (r_assign rfl) ?_
      refine F.q rfl rfl rfl (wanted_none rfl) (r_assign rfl) ?_
      refine F.nil ?_
      refine Nrm.seq ?_
      refine Tri.seq ?_
      obtain ⟨⟨t32_1, t32_2, t32_3, t32_4⟩, h32, h⟩ := bind_some h
      refine Tri.reg (l := [0, 1, 2, 3]) rfl ?_
      refine F.q rfl rfl rfl (wanted_none rfl) (r_loadA ta34 ti34 rfl rfl (fun w hw => (box_cells (i := 4) rfl w hw))) ?_
      refine F.m rfl rfl rfl (wanted_none rfl) (m_callF (xs := _) rfl ok21 rfl rfl (fun w hw => laws_toTrap.ok h32 w ((fun _ hw => hr_a0_1.sep hw) w hw) ((fun _ hw => hr_a0_2.sep hw) w hw) ((fun _ hw => hr_a0_3.sep hw) w hw))) ?_
      rintro _ _ ⟨_, ⟨v32_1, S32_1, v32_2, S32_2, v32_3, S32_3, rfl, hl_v32_1, hl_v32_2, hl_v32_3, rfl⟩, rfl⟩
      refine F.m rfl rfl rfl (wanted_none rfl) (m_alloc ti39) ?_
      rintro _ _ ⟨b9_1, rfl, rfl⟩
      refine F.ef0 rfl rfl (wanted_none rfl) (d_storeG0 (i := 0) (cs2 := [.int .i64 t32_1, v32_1, v32_2, v32_3]) ti39 rfl rfl rfl rfl rfl (Nat.le_of_ble_eq_true rfl) (lf_cons rfl (lf_cons (sl_leaf hl_v32_1) (lf_cons (sl_leaf hl_v32_2) (lf_cons (sl_leaf hl_v32_3) lf_nil))))) ?_
      rintro _ _ ⟨rfl, rfl⟩
      refine F.nil ?_
      refine Nrm.seq ?_
      refine Tri.seq ?_
      obtain ⟨t34, h34, h⟩ := bind_some h
      refine Tri.reg (l := [0, 1, 2]) rfl ?_
      refine F.q rfl rfl rfl (wanted_none rfl) (r_move rfl) ?_
      refine F.m rfl rfl rfl (wanted_none rfl) (m_callF (xs := _) rfl ok45 rfl rfl (fun w hw => laws_toIntS.ok h34 w ((fun _ hw => hr_a1.sep hw) w hw))) ?_
      rintro v34_1 _ ⟨_, ⟨S34_1, hl_v34_1, rfl⟩, rfl⟩
      refine F.q rfl rfl rfl (wanted_none rfl) (r_assign rfl) ?_
      refine F.nil ?_
      refine Nrm.seq ?_
      refine Tri.seq ?_
      obtain ⟨⟨t38_1, t38_2, t38_3⟩, h38, h⟩ := bind_some h
      refine Tri.reg (l := [0, 1, 2, 3, 4, 5, 6, 7, 8, 9]) rfl ?_
      refine F.q rfl rfl rfl (wanted_none rfl) (r_loadA ta39 ti39 rfl rfl (fun w hw => (box_cells (i := 1) rfl w hw))) ?_
      refine F.q rfl rfl rfl (wanted_none rfl) (r_move rfl) ?_
      refine F.qc rfl rfl rfl (wanted_none rfl) (q_callF (xs := _) rfl ok46 rfl rfl (fun w hw => impl_StateBehind.ok h38 w ((rd_sl (i := 2) rfl) w hw) ((rd_sl (i := 3) rfl) w hw) ((rd_sl (i := 4) rfl) w hw) ((rd_sl (i := 0) rfl) w hw))) ?_
      refine F.q rfl rfl rfl (wanted_none rfl) (r_move rfl) ?_
      refine F.q rfl rfl rfl (wanted_none rfl) (r_extract rfl rfl) ?_
      refine F.q rfl rfl rfl (wanted_none rfl) (r_extract rfl rfl) ?_
      refine F.q rfl rfl rfl (wanted_none rfl) (r_extract rfl rfl) ?_
      refine F.q rfl rfl rfl (wanted_none rfl) (r_assign rfl) ?_
      refine F.q rfl rfl rfl (wanted_none rfl) (r_assign rfl) ?_
      refine F.q rfl rfl rfl (wanted_none rfl) (r_assign rfl) ?_
      refine F.nil ?_
      refine Nrm.seq ?_
      refine Tri.seq ?_
      refine Tri.seq ?_
      obtain ⟨y54, hE_1, h⟩ := bind_some h
      refine Tri.cut (fun e' C' => e' = [(1, va1), (2, .pointer (some ⟨b2_1, 0, none⟩)), (9, .pointer (some ⟨b9_1, 0, none⟩)), (10, v34_1), (54, .bool y54)] ∧ C' = Sep w noM [R.box b9_1 39 [.int .i64 t32_1, v32_1, v32_2, v32_3], R.box b2_1 34 [.int .i64 a0_0, va0_1, va0_2, va0_3], R.sl S32_1 v32_1 (t32_2 : List (Int × Int × Int)), R.sl S32_2 v32_2 (t32_3 : List (Int)), R.sl S32_3 v32_3 (t32_4 : List (Int)), R.sl S34_1 v34_1 (t34 : List (Int))]) ?_ (fun hj_1 => ?_)
      · rintro _ _ ⟨rfl, rfl⟩
        refine Nrm.seq ?_
        refine Tri.cond (b := y54) rfl (fun g_3 => ?_) (fun g_3 => ?_)
        · replace h := if_tt g_3 h
          refine Tri.seq ?_
          refine Tri.reg (l := [0]) rfl ?_
          refine F.q rfl rfl rfl (wanted_none rfl) (r_assign rfl) ?_
          refine F.nil ?_
          refine Nrm.seq ?_
          refine Tri.ret ?_
          refine Rtn.then ?_
          cases h
          exact Rtn.body (.tmp rfl .nil) (fun w hw => ⟨rfl, hw.ext⟩)
        · replace h := if_ff g_3 h
          refine Tri.skip ?_
          refine Nrm.seq ?_
          refine Tri.seq ?_
          refine Tri.seq ?_
          obtain ⟨⟨t57_1, t57_2, t57_3, t57_4⟩, h57, h⟩ := bind_some h
          obtain ⟨t58, h58, h⟩ := bind_some h
          refine Tri.drawA mixedT Sep.up [(0, true), (1, true), (2, false), (3, true), (4, true)] [] (by kernel_rfl) ?_
          refine S.q rfl rfl rfl (wanted_none rfl) (r_loadA ta39 ti39 rfl rfl (fun w hw => (box_cells (i := 0) rfl w hw))) ?_
          refine S.q rfl rfl rfl (wanted_none rfl) (r_loadA ta34 ti34 rfl rfl (fun w hw => (box_cells (i := 1) rfl w hw))) ?_
          refine S.m rfl rfl rfl (wanted_none rfl) (m_callF (xs := _) rfl ok21 rfl rfl (fun w hw => laws_toTrap.ok h57 w ((fun _ hw => hr_a0_1.sep hw) w hw) ((fun _ hw => hr_a0_2.sep hw) w hw) ((fun _ hw => hr_a0_3.sep hw) w hw))) ?_
          rintro _ _ ⟨_, ⟨v57_4, S57_4, v57_5, S57_5, v57_6, S57_6, rfl, hl_v57_4, hl_v57_5, hl_v57_6, rfl⟩, rfl⟩
          refine S.qc rfl rfl rfl (wanted_none rfl) (q_callF (xs := _) rfl ok23 rfl rfl (fun w hw => laws_eqTrap.ok h58 w ((rd_sl (i := 5) rfl) w hw) ((rd_sl (i := 6) rfl) w hw) ((rd_sl (i := 7) rfl) w hw) ((rd_sl (i := 0) rfl) w hw) ((rd_sl (i := 1) rfl) w hw) ((rd_sl (i := 2) rfl) w hw))) ?_
          refine S.q rfl rfl rfl (wanted_none rfl) (r_not rfl) ?_
          refine S.nil ?_
          refine F.nil ?_
          refine Nrm.seq ?_
          refine Tri.cond (b := !t58) rfl (fun g_4 => ?_) (fun g_4 => ?_)
          · replace h := if_tt g_4 h
            refine Tri.seq ?_
            refine Tri.reg (l := [0]) rfl ?_
            refine F.q rfl rfl rfl (wanted_none rfl) (r_assign rfl) ?_
            refine F.nil ?_
            refine Nrm.seq ?_
            refine Tri.ret ?_
            refine Rtn.then ?_
            cases h
            exact Rtn.body (.tmp rfl .nil) (fun w hw => ⟨rfl, hw.ext⟩)
          · replace h := if_ff g_4 h
            refine Tri.skip ?_
            refine Nrm.seq ?_
            refine Tri.seq ?_
            refine Tri.seq ?_
            obtain ⟨t62, h62, h⟩ := bind_some h
            obtain ⟨t63, h63, h⟩ := bind_some h
            refine Tri.reg (l := [0, 1, 2, 3, 4]) rfl ?_
            refine F.q rfl rfl rfl (wanted_none rfl) (r_move rfl) ?_
            refine F.q rfl rfl rfl (wanted_none rfl) (r_move rfl) ?_
            refine F.m rfl rfl rfl (wanted_none rfl) (m_callF (xs := _) rfl ok45 rfl rfl (fun w hw => laws_toIntS.ok h62 w ((fun _ hw => hr_a1.sep hw) w hw))) ?_
            rintro v62_1 _ ⟨_, ⟨S62_1, hl_v62_1, rfl⟩, rfl⟩
            refine F.qc rfl rfl rfl (wanted_none rfl) (q_callF (xs := _) rfl ok47 rfl rfl (fun w hw => laws_eqIntS.ok h63 w ((rd_sl (i := 9) rfl) w hw) ((rd_sl (i := 0) rfl) w hw))) ?_
            refine F.q rfl rfl rfl (wanted_none rfl) (r_not rfl) ?_
            refine F.nil ?_
            refine Nrm.seq ?_
            refine Tri.cond (b := !t63) rfl (fun g_5 => ?_) (fun g_5 => ?_)
            · replace h := if_tt g_5 h
              refine Tri.seq ?_
              refine Tri.reg (l := [0]) rfl ?_
              refine F.q rfl rfl rfl (wanted_none rfl) (r_assign rfl) ?_
              refine F.nil ?_
              refine Nrm.seq ?_
              refine Tri.ret ?_
              refine Rtn.then ?_
              cases h
              exact Rtn.body (.tmp rfl .nil) (fun w hw => ⟨rfl, hw.ext⟩)
            · replace h := if_ff g_5 h
              refine Tri.skip ?_
              refine Nrm.seq ?_
              refine Tri.seq ?_
              refine Tri.reg (l := [0]) rfl ?_
              refine F.q rfl rfl rfl (wanted_none rfl) (r_assign rfl) ?_
              refine F.nil ?_
              refine Nrm.seq ?_
              refine Tri.ret ?_
              cases h
              exact Rtn.body (.tmp rfl .nil) (fun w hw => ⟨rfl, hw.ext⟩)
      · rcases Bool.eq_false_or_eq_true (t38_1 != t27_1) with g45 | g45
        · replace hE_1 := if_tt g45 hE_1
          refine Tri.reg (l := [0, 1, 2, 3, 4, 5, 6, 7, 8, 9, 10, 11, 12]) rfl ?_
          refine F.q rfl rfl rfl (wanted_none rfl) (r_move rfl) ?_
          refine F.q rfl rfl rfl (wanted_none rfl) (r_move rfl) ?_
          refine F.q rfl rfl rfl (wanted_none rfl) (r_neq rfl rfl) ?_
          refine F.q rfl rfl rfl (wanted_none rfl) (r_move rfl) ?_
          refine F.sk rfl rfl rfl (wf rfl rfl rfl g45) ?_
          refine F.sk rfl rfl rfl (wf rfl rfl rfl g45) ?_
          refine F.sk rfl rfl rfl (wf rfl rfl rfl g45) ?_
          refine F.q rfl rfl rfl (wanted_none rfl) (r_pick rfl rfl g45) ?_
          refine F.q rfl rfl rfl (wanted_none rfl) (r_move rfl) ?_
          refine F.sk rfl rfl rfl (wf rfl rfl rfl rfl) ?_
          refine F.sk rfl rfl rfl (wf rfl rfl rfl rfl) ?_
          refine F.sk rfl rfl rfl (wf rfl rfl rfl rfl) ?_
          refine F.q rfl rfl rfl (wanted_none rfl) (r_pick rfl rfl rfl) ?_
          refine F.nil ?_
          cases hE_1
          refine Nrm.only [1, 2, 9, 10, 54] rfl ?_
          refine Nrm.pick [1, 9, 2, 3, 4, 0] rfl rfl ?_
          exact hj_1 _ _ ⟨rfl, rfl⟩
        · replace hE_1 := if_ff g45 hE_1
          rcases Bool.eq_false_or_eq_true (t38_2 != t27_2) with g50 | g50
          · replace hE_1 := if_tt g50 hE_1
            refine Tri.reg (l := [0, 1, 2, 3, 4, 5, 6, 7, 8, 9, 10, 11, 12]) rfl ?_
            refine F.q rfl rfl rfl (wanted_none rfl) (r_move rfl) ?_
            refine F.q rfl rfl rfl (wanted_none rfl) (r_move rfl) ?_
            refine F.q rfl rfl rfl (wanted_none rfl) (r_neq rfl rfl) ?_
            refine F.q rfl rfl rfl (wanted_none rfl) (r_move rfl) ?_
            refine F.q rfl rfl rfl (wg rfl rfl rfl g45) (r_move rfl) ?_
            refine F.q rfl rfl rfl (wg rfl rfl rfl g45) (r_move rfl) ?_
            refine F.q rfl rfl rfl (wg rfl rfl rfl g45) (r_neq rfl rfl) ?_
            refine F.q rfl rfl rfl (wanted_none rfl) (r_pickf rfl rfl g45) ?_
            refine F.q rfl rfl rfl (wanted_none rfl) (r_move rfl) ?_
            refine F.sk rfl rfl rfl (wf rfl rfl rfl g50) ?_
            refine F.sk rfl rfl rfl (wf rfl rfl rfl g50) ?_
            refine F.sk rfl rfl rfl (wf rfl rfl rfl g50) ?_
            refine F.q rfl rfl rfl (wanted_none rfl) (r_pick rfl rfl g50) ?_
            refine F.nil ?_
            cases hE_1
            refine Nrm.only [1, 2, 9, 10, 54] rfl ?_
            refine Nrm.pick [1, 9, 2, 3, 4, 0] rfl rfl ?_
            exact hj_1 _ _ ⟨rfl, rfl⟩
          · replace hE_1 := if_ff g50 hE_1
            refine Tri.reg (l := [0, 1, 2, 3, 4, 5, 6, 7, 8, 9, 10, 11, 12]) rfl ?_
            refine F.q rfl rfl rfl (wanted_none rfl) (r_move rfl) ?_
            refine F.q rfl rfl rfl (wanted_none rfl) (r_move rfl) ?_
            refine F.q rfl rfl rfl (wanted_none rfl) (r_neq rfl rfl) ?_
            refine F.q rfl rfl rfl (wanted_none rfl) (r_move rfl) ?_
            refine F.q rfl rfl rfl (wg rfl rfl rfl g45) (r_move rfl) ?_
            refine F.q rfl rfl rfl (wg rfl rfl rfl g45) (r_move rfl) ?_
            refine F.q rfl rfl rfl (wg rfl rfl rfl g45) (r_neq rfl rfl) ?_
            refine F.q rfl rfl rfl (wanted_none rfl) (r_pickf rfl rfl g45) ?_
            refine F.q rfl rfl rfl (wanted_none rfl) (r_move rfl) ?_
            refine F.q rfl rfl rfl (wg rfl rfl rfl g50) (r_move rfl) ?_
            refine F.q rfl rfl rfl (wg rfl rfl rfl g50) (r_move rfl) ?_
            refine F.q rfl rfl rfl (wg rfl rfl rfl g50) (r_neqB Try.underlying4 rfl rfl) ?_
            refine F.q rfl rfl rfl (wanted_none rfl) (r_pickf rfl rfl g50) ?_
            refine F.nil ?_
            cases hE_1
            refine Nrm.only [1, 2, 9, 10, 54] rfl ?_
            refine Nrm.pick [1, 9, 2, 3, 4, 0] rfl rfl ?_
            exact hj_1 _ _ ⟨rfl, rfl⟩

end Go.Proofs
