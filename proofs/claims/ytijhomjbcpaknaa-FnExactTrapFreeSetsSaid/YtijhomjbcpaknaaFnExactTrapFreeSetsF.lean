/- A part of the proof of FnExactTrapFreeSets: what the functions of the program compute, walked on the model. No condition. -/
import Derived.Test.YtijhomjbcpaknaaFnExactTrapFreeSetsC
import Derived.Test.YtijhomjbcpaknaaFnExactTrapFreeSetsD
import Derived.Test.YtijhomjbcpaknaaFnExactTrapFreeSetsE
set_option linter.unusedSimpArgs false
/- loop.example/g01158/laws.FnExactTrapFreeSets -/
namespace Go.Proofs
open Go Go.Ga
set_option linter.unusedVariables false
set_option maxRecDepth 100000
set_option maxHeartbeats 4000000
def laws_FnExactTrapFreeSets.f (k : Nat) (a0_0 : Int) (a0_1 : List (Int × Int × Int)) (a0_2 : List Int) (a0_3 : List Int) : Option (Bool) := (laws_szTrap.f k a0_0 a0_1 a0_2 a0_3 1048576).bind fun t16 => (if (decide (t16 < 0)) = true then some true else (laws_toTrap.f k a0_0 a0_1 a0_2 a0_3).bind fun (t21_1, t21_2, t21_3, t21_4) => (spec_TrapFreeSets.f k t21_1 t21_2 t21_3 t21_4).bind fun (t22_1, t22_2) => (laws_toTrap.f k a0_0 a0_1 a0_2 a0_3).bind fun (t26_1, t26_2, t26_3, t26_4) => (impl_TrapFreeSets.f k t26_1 t26_2 t26_3 t26_4).bind fun (t29_1, t29_2) => ((laws_eqIntS.f k t29_1 t22_1).bind fun t34 => (if (!t34) = true then some true else some (t29_2 != t22_2))).bind fun y40 => (if y40 = true then some false else (laws_toTrap.f k a0_0 a0_1 a0_2 a0_3).bind fun (t43_1, t43_2, t43_3, t43_4) => (laws_eqTrap.f k t26_1 t26_2 t26_3 t26_4 t43_1 t43_2 t43_3 t43_4).bind fun t44 => (if (!t44) = true then some false else (laws_markTrap.f k t26_1 t26_2 t26_3 t26_4 1).bind fun (t48_1, t48_2, t48_3, t48_4) => ((if (decide (t48_1 < 0)) = true then some true else (laws_eqIntS.f k t29_1 t22_1).bind fun t54 => (if (!t54) = true then some true else some (t29_2 != t22_2)))).bind fun y61 => (if y61 = true then some false else (laws_markIntS.f k t29_1 1).bind fun (t64_1, t64_2) => (laws_heldIntS.f k t64_2 1).bind fun t67 => (if (decide (t67 < 0)) = true then some false else (if (t67 != t64_1) = true then some false else (laws_toTrap.f k a0_0 a0_1 a0_2 a0_3).bind fun (t75_1, t75_2, t75_3, t75_4) => (impl_TrapFreeSets.f k t75_1 t75_2 t75_3 t75_4).bind fun (t76_1, t76_2) => ((laws_eqIntS.f k t76_1 t22_1).bind fun t81 => (if (!t81) = true then some true else some (t76_2 != t22_2))).bind fun y87 => (if y87 = true then some false else (laws_heldIntS.f k t64_2 1).bind fun t90 => (if (decide (t90 < 0)) = true then some false else (if (t90 != t64_1) = true then some false else some true)))))))))

theorem laws_FnExactTrapFreeSets.ok {k : Nat}  {a0_0 : Int} {a0_1 : List (Int × Int × Int)} {a0_2 : List Int} {a0_3 : List Int} {r0 : Bool} (h : laws_FnExactTrapFreeSets.f k a0_0 a0_1 a0_2 a0_3 = some r0) (w : World) {va0_1 : Value} {va0_2 : Value} {va0_3 : Value} (hr_a0_1 : Rd w va0_1 a0_1) (hr_a0_2 : Rd w va0_2 a0_2) (hr_a0_3 : Rd w va0_3 a0_3) :
    Calls Try.prog 3 ([.agg ([.int .i64 a0_0, va0_1, va0_2, va0_3].toArray)] : List Value).toArray w (fun e w' => e = .returned (.bool r0) ∧ Ext w w') := by
  unfold laws_FnExactTrapFreeSets.f at h
  have hl_va0_1 := hr_a0_1.len
  have hl_va0_2 := hr_a0_2.len
  have hl_va0_3 := hr_a0_3.len
  refine Calls.of_tri (N := 96) Try.func3 rfl rfl rfl (Sep.nil (M := noM)) ?_
  refine Tri.seq ?_
  refine Tri.reg (l := [0, 1]) rfl ?_
  refine F.m rfl rfl rfl (wanted_none rfl) (m_boxG rfl rfl) ?_
  rintro _ _ ⟨b1_1, rfl, rfl⟩
  refine F.q rfl rfl rfl (wanted_none rfl) (r_assign rfl) ?_
  refine F.nil ?_
  refine Nrm.seq ?_
  refine Tri.seq ?_
  refine Tri.reg (l := [0]) rfl ?_
  refine F.q rfl rfl rfl (wanted_none rfl) (r_assign rfl) ?_
  refine F.nil ?_
  refine Nrm.seq ?_
  refine Tri.seq ?_
  obtain ⟨t16, h16, h⟩ := bind_some h
  refine Tri.reg (l := [0, 1, 2, 3]) rfl ?_
  refine F.q rfl rfl rfl (wanted_none rfl) (r_loadA ta27 ti27 rfl rfl (fun w hw => (box_cells (i := 0) rfl w hw))) ?_
  refine F.q rfl rfl rfl (wanted_none rfl) (r_move rfl) ?_
  refine F.qc rfl rfl rfl (wanted_none rfl) (q_callF (xs := _) rfl ok12 rfl rfl (fun w hw => laws_szTrap.ok h16 w ((fun _ hw => hr_a0_1.sep hw) w hw) ((fun _ hw => hr_a0_2.sep hw) w hw) ((fun _ hw => hr_a0_3.sep hw) w hw))) ?_
  refine F.q rfl rfl rfl (wanted_none rfl) (r_assign rfl) ?_
  refine F.nil ?_
  refine Nrm.seq ?_
  refine Tri.seq ?_
  refine Tri.seq ?_
  refine Tri.reg (l := [0, 1]) rfl ?_
  refine F.q rfl rfl rfl (wanted_none rfl) (r_move rfl) ?_
  refine F.q rfl rfl rfl (wanted_none rfl) (r_lss rfl rfl) ?_
  refine F.nil ?_
  refine Nrm.seq ?_
  refine Tri.cond (b := decide (t16 < 0)) rfl (fun g_1 => ?_) (fun g_1 => ?_)
  · replace h := if_tt g_1 h
    refine Tri.seq ?_
    refine Tri.reg (l := [0]) rfl ?_
    refine F.q rfl rfl rfl (wanted_none rfl) (r_assign rfl) ?_
    refine F.nil ?_
    refine Nrm.seq ?_
    refine Tri.ret ?_
    refine Rtn.then ?_
    cases h
    exact Rtn.body (.tmp rfl .nil) (fun w hw => ⟨rfl, hw.ext⟩)
  · replace h := if_ff g_1 h
    refine Tri.skip ?_
    refine Nrm.seq ?_
    refine Tri.seq ?_
    obtain ⟨⟨t21_1, t21_2, t21_3, t21_4⟩, h21, h⟩ := bind_some h
    obtain ⟨⟨t22_1, t22_2⟩, h22, h⟩ := bind_some h
    refine Tri.reg (l := [0, 1, 2, 3, 4, 5, 6, 7]) rfl ?_
    refine F.q rfl rfl rfl (wanted_none rfl) (r_loadA ta27 ti27 rfl rfl (fun w hw => (box_cells (i := 0) rfl w hw))) ?_
    refine F.m rfl rfl rfl (wanted_none rfl) (m_callF (xs := _) rfl ok14 rfl rfl (fun w hw => laws_toTrap.ok h21 w ((fun _ hw => hr_a0_1.sep hw) w hw) ((fun _ hw => hr_a0_2.sep hw) w hw) ((fun _ hw => hr_a0_3.sep hw) w hw))) ?_
    rintro _ _ ⟨_, ⟨v21_1, S21_1, v21_2, S21_2, v21_3, S21_3, rfl, hl_v21_1, hl_v21_2, hl_v21_3, rfl⟩, rfl⟩
    refine F.m rfl rfl rfl (wanted_none rfl) (m_callF (xs := _) rfl ok13 rfl rfl (fun w hw => spec_TrapFreeSets.ok h22 w ((rd_sl (i := 0) rfl) w hw) ((rd_sl (i := 1) rfl) w hw) ((rd_sl (i := 2) rfl) w hw))) ?_
    rintro _ _ ⟨_, ⟨v22_1, S22_1, rfl, hl_v22_1, rfl⟩, rfl⟩
    refine F.q rfl rfl rfl (wanted_none rfl) (r_move rfl) ?_
    refine F.q rfl rfl rfl (wanted_none rfl) (r_extract rfl rfl) ?_
    refine F.q rfl rfl rfl (wanted_none rfl) (r_extract rfl rfl) ?_
    refine F.q rfl rfl rfl (wanted_none rfl) (r_assign rfl) ?_
    refine F.q rfl rfl rfl (wanted_none rfl) (r_assign rfl) ?_
    refine F.nil ?_
    refine Nrm.seq ?_
    refine Tri.seq ?_
    obtain ⟨⟨t26_1, t26_2, t26_3, t26_4⟩, h26, h⟩ := bind_some h
    refine Tri.reg (l := [0, 1, 2, 3]) rfl ?_
    refine F.q rfl rfl rfl (wanted_none rfl) (r_loadA ta27 ti27 rfl rfl (fun w hw => (box_cells (i := 4) rfl w hw))) ?_
    refine F.m rfl rfl rfl (wanted_none rfl) (m_callF (xs := _) rfl ok14 rfl rfl (fun w hw => laws_toTrap.ok h26 w ((fun _ hw => hr_a0_1.sep hw) w hw) ((fun _ hw => hr_a0_2.sep hw) w hw) ((fun _ hw => hr_a0_3.sep hw) w hw))) ?_
    rintro _ _ ⟨_, ⟨v26_1, S26_1, v26_2, S26_2, v26_3, S26_3, rfl, hl_v26_1, hl_v26_2, hl_v26_3, rfl⟩, rfl⟩
    refine F.m rfl rfl rfl (wanted_none rfl) (m_alloc ti33) ?_
    rintro _ _ ⟨b6_1, rfl, rfl⟩
    refine F.ef0 rfl rfl (wanted_none rfl) (d_storeG0 (i := 0) (cs2 := [.int .i64 t26_1, v26_1, v26_2, v26_3]) ti33 rfl rfl rfl rfl rfl (Nat.le_of_ble_eq_true rfl) (lf_cons rfl (lf_cons (sl_leaf hl_v26_1) (lf_cons (sl_leaf hl_v26_2) (lf_cons (sl_leaf hl_v26_3) lf_nil))))) ?_
    rintro _ _ ⟨rfl, rfl⟩
    refine F.nil ?_
    refine Nrm.seq ?_
    refine Tri.seq ?_
    obtain ⟨⟨t29_1, t29_2⟩, h29, h⟩ := bind_some h
    refine Tri.reg (l := [0, 1, 2, 3, 4, 5, 6]) rfl ?_
    refine F.q rfl rfl rfl (wanted_none rfl) (r_loadA ta33 ti33 rfl rfl (fun w hw => (box_cells (i := 0) rfl w hw))) ?_
    refine F.m rfl rfl rfl (wanted_none rfl) (m_callF (xs := _) rfl ok15 rfl rfl (fun w hw => impl_TrapFreeSets.ok h29 w ((rd_sl (i := 1) rfl) w hw) ((rd_sl (i := 2) rfl) w hw) ((rd_sl (i := 3) rfl) w hw))) ?_
    rintro _ _ ⟨_, ⟨v29_1, S29_1, rfl, hl_v29_1, rfl⟩, rfl⟩
    refine F.q rfl rfl rfl (wanted_none rfl) (r_move rfl) ?_
    refine F.q rfl rfl rfl (wanted_none rfl) (r_extract rfl rfl) ?_
    refine F.q rfl rfl rfl (wanted_none rfl) (r_extract rfl rfl) ?_
    refine F.q rfl rfl rfl (wanted_none rfl) (r_assign rfl) ?_
    refine F.q rfl rfl rfl (wanted_none rfl) (r_assign rfl) ?_
    refine F.nil ?_
    refine Nrm.seq ?_
    refine Tri.seq ?_
    refine Tri.seq ?_
    obtain ⟨y40, hE_1, h⟩ := bind_some h
    refine Tri.cut (fun e' C' => e' = [(1, .pointer (some ⟨b1_1, 0, none⟩)), (4, v22_1), (5, .bool t22_2), (6, .pointer (some ⟨b6_1, 0, none⟩)), (7, v29_1), (8, .bool t29_2), (40, .bool y40)] ∧ C' = Sep w noM [R.box b6_1 33 [.int .i64 t26_1, v26_1, v26_2, v26_3], R.box b1_1 27 [.int .i64 a0_0, va0_1, va0_2, va0_3], R.sl S22_1 v22_1 (t22_1 : List (Int)), R.sl S26_1 v26_1 (t26_2 : List (Int × Int × Int)), R.sl S26_2 v26_2 (t26_3 : List (Int)), R.sl S26_3 v26_3 (t26_4 : List (Int)), R.sl S29_1 v29_1 (t29_1 : List (Int))]) ?_ (fun hj_1 => ?_)
    · rintro _ _ ⟨rfl, rfl⟩
      refine Nrm.seq ?_
      refine Tri.cond (b := y40) rfl (fun g_2 => ?_) (fun g_2 => ?_)
      · replace h := if_tt g_2 h
        refine Tri.seq ?_
        refine Tri.reg (l := [0]) rfl ?_
        refine F.q rfl rfl rfl (wanted_none rfl) (r_assign rfl) ?_
        refine F.nil ?_
        refine Nrm.seq ?_
        refine Tri.ret ?_
        refine Rtn.then ?_
        cases h
        exact Rtn.body (.tmp rfl .nil) (fun w hw => ⟨rfl, hw.ext⟩)
      · replace h := if_ff g_2 h
        refine Tri.skip ?_
        refine Nrm.seq ?_
        refine Tri.seq ?_
        refine Tri.seq ?_
        obtain ⟨⟨t43_1, t43_2, t43_3, t43_4⟩, h43, h⟩ := bind_some h
        obtain ⟨t44, h44, h⟩ := bind_some h
        refine Tri.drawA mixedT Sep.up [(0, true), (1, true), (2, false), (3, true), (4, true)] [] (by kernel_rfl) ?_
        refine S.q rfl rfl rfl (wanted_none rfl) (r_loadA ta33 ti33 rfl rfl (fun w hw => (box_cells (i := 0) rfl w hw))) ?_
        refine S.q rfl rfl rfl (wanted_none rfl) (r_loadA ta27 ti27 rfl rfl (fun w hw => (box_cells (i := 1) rfl w hw))) ?_
        refine S.m rfl rfl rfl (wanted_none rfl) (m_callF (xs := _) rfl ok14 rfl rfl (fun w hw => laws_toTrap.ok h43 w ((fun _ hw => hr_a0_1.sep hw) w hw) ((fun _ hw => hr_a0_2.sep hw) w hw) ((fun _ hw => hr_a0_3.sep hw) w hw))) ?_
        rintro _ _ ⟨_, ⟨v43_4, S43_4, v43_5, S43_5, v43_6, S43_6, rfl, hl_v43_4, hl_v43_5, hl_v43_6, rfl⟩, rfl⟩
        refine S.qc rfl rfl rfl (wanted_none rfl) (q_callF (xs := _) rfl ok17 rfl rfl (fun w hw => laws_eqTrap.ok h44 w ((rd_sl (i := 6) rfl) w hw) ((rd_sl (i := 7) rfl) w hw) ((rd_sl (i := 8) rfl) w hw) ((rd_sl (i := 0) rfl) w hw) ((rd_sl (i := 1) rfl) w hw) ((rd_sl (i := 2) rfl) w hw))) ?_
        refine S.q rfl rfl rfl (wanted_none rfl) (r_not rfl) ?_
        refine S.nil ?_
        refine F.nil ?_
        refine Nrm.seq ?_
        refine Tri.cond (b := !t44) rfl (fun g_3 => ?_) (fun g_3 => ?_)
        · replace h := if_tt g_3 h
          refine Tri.seq ?_
          refine Tri.reg (l := [0]) rfl ?_
          refine F.q rfl rfl rfl (wanted_none rfl) (r_assign rfl) ?_
          refine F.nil ?_
          refine Nrm.seq ?_
          refine Tri.ret ?_
          refine Rtn.then ?_
          cases h
          exact Rtn.body (.tmp rfl .nil) (fun w hw => ⟨rfl, hw.ext⟩)
        · replace h := if_ff g_3 h
          refine Tri.skip ?_
          refine Nrm.seq ?_
          refine Tri.seq ?_
          refine Tri.reg (l := [0]) rfl ?_
          refine F.q rfl rfl rfl (wanted_none rfl) (r_assign rfl) ?_
          refine F.nil ?_
          refine Nrm.seq ?_
          refine Tri.seq ?_
          obtain ⟨⟨t48_1, t48_2, t48_3, t48_4⟩, h48, h⟩ := bind_some h
          refine Tri.reg (l := [0, 1, 2, 3]) rfl ?_
          refine F.q rfl rfl rfl (wanted_none rfl) (r_loadA ta33 ti33 rfl rfl (fun w hw => (box_cells (i := 3) rfl w hw))) ?_
          refine F.q rfl rfl rfl (wanted_none rfl) (r_move rfl) ?_
          refine F.ef rfl rfl rfl (wanted_none rfl) (d_callM (xs := _) (cs := [R.sl S26_1 v26_1 (t26_2 : List (Int × Int × Int)), R.sl S26_2 v26_2 (t26_3 : List (Int)), R.sl S26_3 v26_3 (t26_4 : List (Int))]) (rest := [R.sl S43_4 v43_4 (t43_2 : List (Int × Int × Int)), R.sl S43_5 v43_5 (t43_3 : List (Int)), R.sl S43_6 v43_6 (t43_4 : List (Int)), R.box b6_1 33 [.int .i64 t26_1, v26_1, v26_2, v26_3], R.box b1_1 27 [.int .i64 a0_0, va0_1, va0_2, va0_3], R.sl S22_1 v22_1 (t22_1 : List (Int)), R.sl S29_1 v29_1 (t29_1 : List (Int))]) [6, 7, 8] [0, 1, 2, 3, 4, 5, 9] rfl ok18 rfl rfl rfl rfl (fun w hw => laws_markTrap.ok h48 w hl_v26_1 hl_v26_2 hl_v26_3 (Sep.sub hw))) ?_
          rintro _ _ ⟨_, ⟨rfl, hl_t48_2, hl_t48_3, hl_t48_4, rfl⟩, rfl⟩
          refine F.q rfl rfl rfl (wanted_none rfl) (r_assign rfl) ?_
          refine F.nil ?_
          refine Nrm.seq ?_
          refine Tri.seq ?_
          refine Tri.seq ?_
          obtain ⟨y61, hE_2, h⟩ := bind_some h
          refine Tri.cut (fun e' C' => e' = [(1, .pointer (some ⟨b1_1, 0, none⟩)), (4, v22_1), (5, .bool t22_2), (7, v29_1), (61, .bool y61)] ∧ C' = Sep w noM [R.box b1_1 27 [.int .i64 a0_0, va0_1, va0_2, va0_3], R.sl S22_1 v22_1 (t22_1 : List (Int)), R.sl S29_1 v29_1 (t29_1 : List (Int))]) ?_ (fun hj_2 => ?_)
          · rintro _ _ ⟨rfl, rfl⟩
            refine Nrm.seq ?_
            refine Tri.cond (b := y61) rfl (fun g_4 => ?_) (fun g_4 => ?_)
            · replace h := if_tt g_4 h
              refine Tri.seq ?_
              refine Tri.reg (l := [0]) rfl ?_
              refine F.q rfl rfl rfl (wanted_none rfl) (r_assign rfl) ?_
              refine F.nil ?_
              refine Nrm.seq ?_
              refine Tri.ret ?_
              refine Rtn.then ?_
              cases h
              exact Rtn.body (.tmp rfl .nil) (fun w hw => ⟨rfl, hw.ext⟩)
            · replace h := if_ff g_4 h
              refine Tri.skip ?_
              refine Nrm.seq ?_
              refine Tri.seq ?_
              refine Tri.reg (l := [0]) rfl ?_
              refine F.q rfl rfl rfl (wanted_none rfl) (r_assign rfl) ?_
              refine F.nil ?_
              refine Nrm.seq ?_
              refine Tri.seq ?_
              obtain ⟨⟨t64_1, t64_2⟩, h64, h⟩ := bind_some h
              refine Tri.reg (l := [0, 1, 2, 3]) rfl ?_
              refine F.q rfl rfl rfl (wanted_none rfl) (r_move rfl) ?_
              refine F.q rfl rfl rfl (wanted_none rfl) (r_move rfl) ?_
              refine F.ef rfl rfl rfl (wanted_none rfl) (d_callM (xs := _) (cs := [R.sl S29_1 v29_1 (t29_1 : List (Int))]) (rest := [R.box b1_1 27 [.int .i64 a0_0, va0_1, va0_2, va0_3], R.sl S22_1 v22_1 (t22_1 : List (Int))]) [2] [0, 1] rfl ok19 rfl rfl rfl rfl (fun w hw => laws_markIntS.ok h64 w hl_v29_1 (Sep.sub hw))) ?_
              rintro _ _ ⟨_, ⟨rfl, hl_t64_2, rfl⟩, rfl⟩
              refine F.q rfl rfl rfl (wanted_none rfl) (r_assign rfl) ?_
              refine F.nil ?_
              refine Nrm.seq ?_
              refine Tri.seq ?_
              refine Tri.reg (l := [0]) rfl ?_
              refine F.q rfl rfl rfl (wanted_none rfl) (r_assign rfl) ?_
              refine F.nil ?_
              refine Nrm.seq ?_
              refine Tri.seq ?_
              obtain ⟨t67, h67, h⟩ := bind_some h
              refine Tri.reg (l := [0, 1, 2, 3]) rfl ?_
              refine F.q rfl rfl rfl (wanted_none rfl) (r_move rfl) ?_
              refine F.q rfl rfl rfl (wanted_none rfl) (r_move rfl) ?_
              refine F.qc rfl rfl rfl (wanted_none rfl) (q_callF (xs := _) rfl ok20 rfl rfl (fun w hw => laws_heldIntS.ok h67 w ((rd_sl (i := 0) rfl) w hw))) ?_
              refine F.q rfl rfl rfl (wanted_none rfl) (r_assign rfl) ?_
              refine F.nil ?_
              refine Nrm.seq ?_
              refine Tri.seq ?_
              refine Tri.seq ?_
              refine Tri.reg (l := [0, 1]) rfl ?_
              refine F.q rfl rfl rfl (wanted_none rfl) (r_move rfl) ?_
              refine F.q rfl rfl rfl (wanted_none rfl) (r_lss rfl rfl) ?_
              refine F.nil ?_
              refine Nrm.seq ?_
              refine Tri.cond (b := decide (t67 < 0)) rfl (fun g_5 => ?_) (fun g_5 => ?_)
              · replace h := if_tt g_5 h
                refine Tri.seq ?_
                refine Tri.reg (l := [0]) rfl ?_
                refine F.q rfl rfl rfl (wanted_none rfl) (r_assign rfl) ?_
                refine F.nil ?_
                refine Nrm.seq ?_
                refine Tri.ret ?_
                refine Rtn.then ?_
                cases h
                exact Rtn.body (.tmp rfl .nil) (fun w hw => ⟨rfl, hw.ext⟩)
              · replace h := if_ff g_5 h
                refine Tri.skip ?_
                refine Nrm.seq ?_
                refine Tri.seq ?_
                refine Tri.seq ?_
                refine Tri.reg (l := [0, 1, 2]) rfl ?_
                refine F.q rfl rfl rfl (wanted_none rfl) (r_move rfl) ?_
                refine F.q rfl rfl rfl (wanted_none rfl) (r_move rfl) ?_
                refine F.q rfl rfl rfl (wanted_none rfl) (r_neq rfl rfl) ?_
                refine F.nil ?_
                refine Nrm.seq ?_
                refine Tri.cond (b := t67 != t64_1) rfl (fun g_6 => ?_) (fun g_6 => ?_)
                · replace h := if_tt g_6 h
                  refine Tri.seq ?_
                  refine Tri.reg (l := [0]) rfl ?_
                  refine F.q rfl rfl rfl (wanted_none rfl) (r_assign rfl) ?_
                  refine F.nil ?_
                  refine Nrm.seq ?_
                  refine Tri.ret ?_
                  refine Rtn.then ?_
                  cases h
                  exact Rtn.body (.tmp rfl .nil) (fun w hw => ⟨rfl, hw.ext⟩)
                · replace h := if_ff g_6 h
                  refine Tri.skip ?_
                  refine Nrm.seq ?_
                  refine Tri.seq ?_
                  obtain ⟨⟨t75_1, t75_2, t75_3, t75_4⟩, h75, h⟩ := bind_some h
                  obtain ⟨⟨t76_1, t76_2⟩, h76, h⟩ := bind_some h
                  refine Tri.reg (l := [0, 1, 2, 3, 4, 5, 6, 7]) rfl ?_
                  refine F.q rfl rfl rfl (wanted_none rfl) (r_loadA ta27 ti27 rfl rfl (fun w hw => (box_cells (i := 1) rfl w hw))) ?_
                  refine F.m rfl rfl rfl (wanted_none rfl) (m_callF (xs := _) rfl ok14 rfl rfl (fun w hw => laws_toTrap.ok h75 w ((fun _ hw => hr_a0_1.sep hw) w hw) ((fun _ hw => hr_a0_2.sep hw) w hw) ((fun _ hw => hr_a0_3.sep hw) w hw))) ?_
                  rintro _ _ ⟨_, ⟨v75_1, S75_1, v75_2, S75_2, v75_3, S75_3, rfl, hl_v75_1, hl_v75_2, hl_v75_3, rfl⟩, rfl⟩
                  refine F.m rfl rfl rfl (wanted_none rfl) (m_callF (xs := _) rfl ok15 rfl rfl (fun w hw => impl_TrapFreeSets.ok h76 w ((rd_sl (i := 0) rfl) w hw) ((rd_sl (i := 1) rfl) w hw) ((rd_sl (i := 2) rfl) w hw))) ?_
                  rintro _ _ ⟨_, ⟨v76_1, S76_1, rfl, hl_v76_1, rfl⟩, rfl⟩
                  refine F.q rfl rfl rfl (wanted_none rfl) (r_move rfl) ?_
                  refine F.q rfl rfl rfl (wanted_none rfl) (r_extract rfl rfl) ?_
                  refine F.q rfl rfl rfl (wanted_none rfl) (r_extract rfl rfl) ?_
                  refine F.q rfl rfl rfl (wanted_none rfl) (r_assign rfl) ?_
                  refine F.q rfl rfl rfl (wanted_none rfl) (r_assign rfl) ?_
                  refine F.nil ?_
                  refine Nrm.seq ?_
                  refine Tri.seq ?_
                  refine Tri.seq ?_
                  obtain ⟨y87, hE_3, h⟩ := bind_some h
                  refine Tri.cut (fun e' C' => e' = [(7, v29_1), (10, .int .i64 t64_1), (87, .bool y87)] ∧ C' = Sep w noM [R.sl S29_1 v29_1 (t64_2 : List (Int))]) ?_ (fun hj_3 => ?_)
                  · rintro _ _ ⟨rfl, rfl⟩
                    refine Nrm.seq ?_
                    refine Tri.cond (b := y87) rfl (fun g_7 => ?_) (fun g_7 => ?_)
                    · replace h := if_tt g_7 h
                      refine Tri.seq ?_
                      refine Tri.reg (l := [0]) rfl ?_
                      refine F.q rfl rfl rfl (wanted_none rfl) (r_assign rfl) ?_
                      refine F.nil ?_
                      refine Nrm.seq ?_
                      refine Tri.ret ?_
                      refine Rtn.then ?_
                      cases h
                      exact Rtn.body (.tmp rfl .nil) (fun w hw => ⟨rfl, hw.ext⟩)
                    · replace h := if_ff g_7 h
                      refine Tri.skip ?_
                      refine Nrm.seq ?_
                      refine Tri.seq ?_
                      refine Tri.reg (l := [0]) rfl ?_
                      refine F.q rfl rfl rfl (wanted_none rfl) (r_assign rfl) ?_
                      refine F.nil ?_
                      refine Nrm.seq ?_
                      refine Tri.seq ?_
                      obtain ⟨t90, h90, h⟩ := bind_some h
                      refine Tri.reg (l := [0, 1, 2, 3]) rfl ?_
                      refine F.q rfl rfl rfl (wanted_none rfl) (r_move rfl) ?_
                      refine F.q rfl rfl rfl (wanted_none rfl) (r_move rfl) ?_
                      refine F.qc rfl rfl rfl (wanted_none rfl) (q_callF (xs := _) rfl ok20 rfl rfl (fun w hw => laws_heldIntS.ok h90 w ((rd_sl (i := 0) rfl) w hw))) ?_
                      refine F.q rfl rfl rfl (wanted_none rfl) (r_assign rfl) ?_
                      refine F.nil ?_
                      refine Nrm.seq ?_
                      refine Tri.seq ?_
                      refine Tri.seq ?_
                      refine Tri.reg (l := [0, 1]) rfl ?_
                      refine F.q rfl rfl rfl (wanted_none rfl) (r_move rfl) ?_
                      refine F.q rfl rfl rfl (wanted_none rfl) (r_lss rfl rfl) ?_
                      refine F.nil ?_
                      refine Nrm.seq ?_
                      refine Tri.cond (b := decide (t90 < 0)) rfl (fun g_8 => ?_) (fun g_8 => ?_)
                      · replace h := if_tt g_8 h
                        refine Tri.seq ?_
                        refine Tri.reg (l := [0]) rfl ?_
                        refine F.q rfl rfl rfl (wanted_none rfl) (r_assign rfl) ?_
                        refine F.nil ?_
                        refine Nrm.seq ?_
                        refine Tri.ret ?_
                        refine Rtn.then ?_
                        cases h
                        exact Rtn.body (.tmp rfl .nil) (fun w hw => ⟨rfl, hw.ext⟩)
                      · replace h := if_ff g_8 h
                        refine Tri.skip ?_
                        refine Nrm.seq ?_
                        refine Tri.seq ?_
                        refine Tri.seq ?_
                        refine Tri.reg (l := [0, 1, 2]) rfl ?_
                        refine F.q rfl rfl rfl (wanted_none rfl) (r_move rfl) ?_
                        refine F.q rfl rfl rfl (wanted_none rfl) (r_move rfl) ?_
                        refine F.q rfl rfl rfl (wanted_none rfl) (r_neq rfl rfl) ?_
                        refine F.nil ?_
                        refine Nrm.seq ?_
                        refine Tri.cond (b := t90 != t64_1) rfl (fun g_9 => ?_) (fun g_9 => ?_)
                        · replace h := if_tt g_9 h
                          refine Tri.seq ?_
                          refine Tri.reg (l := [0]) rfl ?_
                          refine F.q rfl rfl rfl (wanted_none rfl) (r_assign rfl) ?_
                          refine F.nil ?_
                          refine Nrm.seq ?_
                          refine Tri.ret ?_
                          refine Rtn.then ?_
                          cases h
                          exact Rtn.body (.tmp rfl .nil) (fun w hw => ⟨rfl, hw.ext⟩)
                        · replace h := if_ff g_9 h
                          refine Tri.skip ?_
                          refine Nrm.seq ?_
                          refine Tri.seq ?_
                          refine Tri.reg (l := [0]) rfl ?_
                          refine F.q rfl rfl rfl (wanted_none rfl) (r_assign rfl) ?_
                          refine F.nil ?_
                          refine Nrm.seq ?_
                          refine Tri.ret ?_
                          cases h
                          exact Rtn.body (.tmp rfl .nil) (fun w hw => ⟨rfl, hw.ext⟩)
                  · obtain ⟨t81, h81, hE_3⟩ := bind_some hE_3
                    rcases Bool.eq_false_or_eq_true (!t81) with g83 | g83
                    · replace hE_3 := if_tt g83 hE_3
                      refine Tri.reg (l := [0, 1, 2, 3, 4, 5, 6, 7, 8]) rfl ?_
                      refine F.q rfl rfl rfl (wanted_none rfl) (r_move rfl) ?_
                      refine F.q rfl rfl rfl (wanted_none rfl) (r_move rfl) ?_
                      refine F.qc rfl rfl rfl (wanted_none rfl) (q_callF (xs := _) rfl ok16 rfl rfl (fun w hw => laws_eqIntS.ok h81 w ((rd_sl (i := 0) rfl) w hw) ((rd_sl (i := 6) rfl) w hw))) ?_
                      refine F.q rfl rfl rfl (wanted_none rfl) (r_not rfl) ?_
                      refine F.q rfl rfl rfl (wanted_none rfl) (r_move rfl) ?_
                      refine F.sk rfl rfl rfl (wf rfl rfl rfl g83) ?_
                      refine F.sk rfl rfl rfl (wf rfl rfl rfl g83) ?_
                      refine F.sk rfl rfl rfl (wf rfl rfl rfl g83) ?_
                      refine F.q rfl rfl rfl (wanted_none rfl) (r_pick rfl rfl g83) ?_
                      refine F.nil ?_
                      cases hE_3
                      refine Nrm.only [7, 10, 87] rfl ?_
                      refine Nrm.pick [4] rfl rfl ?_
                      exact hj_3 _ _ ⟨rfl, rfl⟩
                    · replace hE_3 := if_ff g83 hE_3
                      refine Tri.reg (l := [0, 1, 2, 3, 4, 5, 6, 7, 8]) rfl ?_
                      refine F.q rfl rfl rfl (wanted_none rfl) (r_move rfl) ?_
                      refine F.q rfl rfl rfl (wanted_none rfl) (r_move rfl) ?_
                      refine F.qc rfl rfl rfl (wanted_none rfl) (q_callF (xs := _) rfl ok16 rfl rfl (fun w hw => laws_eqIntS.ok h81 w ((rd_sl (i := 0) rfl) w hw) ((rd_sl (i := 6) rfl) w hw))) ?_
                      refine F.q rfl rfl rfl (wanted_none rfl) (r_not rfl) ?_
                      refine F.q rfl rfl rfl (wanted_none rfl) (r_move rfl) ?_
                      refine F.q rfl rfl rfl (wg rfl rfl rfl g83) (r_move rfl) ?_
                      refine F.q rfl rfl rfl (wg rfl rfl rfl g83) (r_move rfl) ?_
                      refine F.q rfl rfl rfl (wg rfl rfl rfl g83) (r_neqB Try.underlying4 rfl rfl) ?_
                      refine F.q rfl rfl rfl (wanted_none rfl) (r_pickf rfl rfl g83) ?_
                      refine F.nil ?_
                      cases hE_3
                      refine Nrm.only [7, 10, 87] rfl ?_
                      refine Nrm.pick [4] rfl rfl ?_
                      exact hj_3 _ _ ⟨rfl, rfl⟩
          · rcases Bool.eq_false_or_eq_true (decide (t48_1 < 0)) with g51 | g51
            · replace hE_2 := if_tt g51 hE_2
              refine Tri.reg (l := [0, 1, 2, 3, 4, 5, 6, 7, 8, 9, 10, 11, 12]) rfl ?_
              refine F.q rfl rfl rfl (wanted_none rfl) (r_move rfl) ?_
              refine F.q rfl rfl rfl (wanted_none rfl) (r_lss rfl rfl) ?_
              refine F.q rfl rfl rfl (wanted_none rfl) (r_move rfl) ?_
              refine F.sk rfl rfl rfl (wf rfl rfl rfl g51) ?_
              refine F.sk rfl rfl rfl (wf rfl rfl rfl g51) ?_
              refine F.sk rfl rfl rfl (wf rfl rfl rfl g51) ?_
              refine F.sk rfl rfl rfl (wf rfl rfl rfl g51) ?_
              refine F.q rfl rfl rfl (wanted_none rfl) (r_pick rfl rfl g51) ?_
              refine F.q rfl rfl rfl (wanted_none rfl) (r_move rfl) ?_
              refine F.sk rfl rfl rfl (wf rfl rfl rfl rfl) ?_
              refine F.sk rfl rfl rfl (wf rfl rfl rfl rfl) ?_
              refine F.sk rfl rfl rfl (wf rfl rfl rfl rfl) ?_
              refine F.q rfl rfl rfl (wanted_none rfl) (r_pick rfl rfl rfl) ?_
              refine F.nil ?_
              cases hE_2
              refine Nrm.only [1, 4, 5, 7, 61] rfl ?_
              refine Nrm.pick [7, 8, 9] rfl rfl ?_
              exact hj_2 _ _ ⟨rfl, rfl⟩
            · replace hE_2 := if_ff g51 hE_2
              obtain ⟨t54, h54, hE_2⟩ := bind_some hE_2
              rcases Bool.eq_false_or_eq_true (!t54) with g57 | g57
              · replace hE_2 := if_tt g57 hE_2
                refine Tri.reg (l := [0, 1, 2, 3, 4, 5, 6, 7, 8, 9, 10, 11, 12]) rfl ?_
                refine F.q rfl rfl rfl (wanted_none rfl) (r_move rfl) ?_
                refine F.q rfl rfl rfl (wanted_none rfl) (r_lss rfl rfl) ?_
                refine F.q rfl rfl rfl (wanted_none rfl) (r_move rfl) ?_
                refine F.q rfl rfl rfl (wg rfl rfl rfl g51) (r_move rfl) ?_
                refine F.q rfl rfl rfl (wg rfl rfl rfl g51) (r_move rfl) ?_
                refine F.qc rfl rfl rfl (wg rfl rfl rfl g51) (q_callF (xs := _) rfl ok16 rfl rfl (fun w hw => laws_eqIntS.ok h54 w ((rd_sl (i := 9) rfl) w hw) ((rd_sl (i := 8) rfl) w hw))) ?_
                refine F.q rfl rfl rfl (wg rfl rfl rfl g51) (r_not rfl) ?_
                refine F.q rfl rfl rfl (wanted_none rfl) (r_pickf rfl rfl g51) ?_
                refine F.q rfl rfl rfl (wanted_none rfl) (r_move rfl) ?_
                refine F.sk rfl rfl rfl (wf rfl rfl rfl g57) ?_
                refine F.sk rfl rfl rfl (wf rfl rfl rfl g57) ?_
                refine F.sk rfl rfl rfl (wf rfl rfl rfl g57) ?_
                refine F.q rfl rfl rfl (wanted_none rfl) (r_pick rfl rfl g57) ?_
                refine F.nil ?_
                cases hE_2
                refine Nrm.only [1, 4, 5, 7, 61] rfl ?_
                refine Nrm.pick [7, 8, 9] rfl rfl ?_
                exact hj_2 _ _ ⟨rfl, rfl⟩
              · replace hE_2 := if_ff g57 hE_2
                refine Tri.reg (l := [0, 1, 2, 3, 4, 5, 6, 7, 8, 9, 10, 11, 12]) rfl ?_
                refine F.q rfl rfl rfl (wanted_none rfl) (r_move rfl) ?_
                refine F.q rfl rfl rfl (wanted_none rfl) (r_lss rfl rfl) ?_
                refine F.q rfl rfl rfl (wanted_none rfl) (r_move rfl) ?_
                refine F.q rfl rfl rfl (wg rfl rfl rfl g51) (r_move rfl) ?_
                refine F.q rfl rfl rfl (wg rfl rfl rfl g51) (r_move rfl) ?_
                refine F.qc rfl rfl rfl (wg rfl rfl rfl g51) (q_callF (xs := _) rfl ok16 rfl rfl (fun w hw => laws_eqIntS.ok h54 w ((rd_sl (i := 9) rfl) w hw) ((rd_sl (i := 8) rfl) w hw))) ?_
                refine F.q rfl rfl rfl (wg rfl rfl rfl g51) (r_not rfl) ?_
                refine F.q rfl rfl rfl (wanted_none rfl) (r_pickf rfl rfl g51) ?_
                refine F.q rfl rfl rfl (wanted_none rfl) (r_move rfl) ?_
                refine F.q rfl rfl rfl (wg rfl rfl rfl g57) (r_move rfl) ?_
                refine F.q rfl rfl rfl (wg rfl rfl rfl g57) (r_move rfl) ?_
                refine F.q rfl rfl rfl (wg rfl rfl rfl g57) (r_neqB Try.underlying4 rfl rfl) ?_
                refine F.q rfl rfl rfl (wanted_none rfl) (r_pickf rfl rfl g57) ?_
                refine F.nil ?_
                cases hE_2
                refine Nrm.only [1, 4, 5, 7, 61] rfl ?_
                refine Nrm.pick [7, 8, 9] rfl rfl ?_
                exact hj_2 _ _ ⟨rfl, rfl⟩
    · obtain ⟨t34, h34, hE_1⟩ := bind_some hE_1
      rcases Bool.eq_false_or_eq_true (!t34) with g36 | g36
      · replace hE_1 := if_tt g36 hE_1
        refine Tri.reg (l := [0, 1, 2, 3, 4, 5, 6, 7, 8]) rfl ?_
        refine F.q rfl rfl rfl (wanted_none rfl) (r_move rfl) ?_
        refine F.q rfl rfl rfl (wanted_none rfl) (r_move rfl) ?_
        refine F.qc rfl rfl rfl (wanted_none rfl) (q_callF (xs := _) rfl ok16 rfl rfl (fun w hw => laws_eqIntS.ok h34 w ((rd_sl (i := 0) rfl) w hw) ((rd_sl (i := 5) rfl) w hw))) ?_
        refine F.q rfl rfl rfl (wanted_none rfl) (r_not rfl) ?_
        refine F.q rfl rfl rfl (wanted_none rfl) (r_move rfl) ?_
        refine F.sk rfl rfl rfl (wf rfl rfl rfl g36) ?_
        refine F.sk rfl rfl rfl (wf rfl rfl rfl g36) ?_
        refine F.sk rfl rfl rfl (wf rfl rfl rfl g36) ?_
        refine F.q rfl rfl rfl (wanted_none rfl) (r_pick rfl rfl g36) ?_
        refine F.nil ?_
        cases hE_1
        refine Nrm.only [1, 4, 5, 6, 7, 8, 40] rfl ?_
        refine Nrm.pick [1, 9, 5, 2, 3, 4, 0] rfl rfl ?_
        exact hj_1 _ _ ⟨rfl, rfl⟩
      · replace hE_1 := if_ff g36 hE_1
        refine Tri.reg (l := [0, 1, 2, 3, 4, 5, 6, 7, 8]) rfl ?_
        refine F.q rfl rfl rfl (wanted_none rfl) (r_move rfl) ?_
        refine F.q rfl rfl rfl (wanted_none rfl) (r_move rfl) ?_
        refine F.qc rfl rfl rfl (wanted_none rfl) (q_callF (xs := _) rfl ok16 rfl rfl (fun w hw => laws_eqIntS.ok h34 w ((rd_sl (i := 0) rfl) w hw) ((rd_sl (i := 5) rfl) w hw))) ?_
        refine F.q rfl rfl rfl (wanted_none rfl) (r_not rfl) ?_
        refine F.q rfl rfl rfl (wanted_none rfl) (r_move rfl) ?_
        refine F.q rfl rfl rfl (wg rfl rfl rfl g36) (r_move rfl) ?_
        refine F.q rfl rfl rfl (wg rfl rfl rfl g36) (r_move rfl) ?_
        refine F.q rfl rfl rfl (wg rfl rfl rfl g36) (r_neqB Try.underlying4 rfl rfl) ?_
        refine F.q rfl rfl rfl (wanted_none rfl) (r_pickf rfl rfl g36) ?_
        refine F.nil ?_
        cases hE_1
        refine Nrm.only [1, 4, 5, 6, 7, 8, 40] rfl ?_
        refine Nrm.pick [1, 9, 5, 2, 3, 4, 0] rfl rfl ?_
        exact hj_1 _ _ ⟨rfl, rfl⟩

end Go.Proofs
