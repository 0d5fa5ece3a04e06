/- A part of the proof of FnExactDoDeeds: what the functions of the program compute, walked on the model. No condition. -/
import Derived.Test.YtijhomjbcpaknaaGreatFnExactDoDeedsC
import Derived.Test.YtijhomjbcpaknaaGreatFnExactDoDeedsD
import Derived.Test.YtijhomjbcpaknaaGreatFnExactDoDeedsF
set_option linter.unusedSimpArgs false
/- loop.example/g01158/laws.FnExactDoDeeds -/
namespace Go.Proofs
open Go Go.Ga
set_option linter.unusedVariables false
set_option maxRecDepth 100000
set_option maxHeartbeats 4000000
noncomputable def laws_FnExactDoDeeds.f (k : Nat) (a0_0 : Int) (a0_1 : List (Int × Int × Int)) (a0_2 : List Int) (a0_3 : List Int) (a0_4 : Int) (a1 : List (Int × Int × Int × Int)) : Option (Bool) := (laws_szVisit.f k a0_0 a0_1 a0_2 a0_3 a0_4 1048576).bind fun t22 => (if (decide (t22 < 0)) = true then some true else (laws_szDeedS.f k a1 t22).bind fun t27 => (if (decide (t27 < 0)) = true then some true else (laws_toVisit.f k a0_0 a0_1 a0_2 a0_3 a0_4).bind fun (t32_1, t32_2, t32_3, t32_4, t32_5) => (laws_toDeedS.f k a1).bind fun t34 => (spec_DoDeeds.f k t32_1 t32_2 t32_3 t32_4 t32_5 t34).bind fun (t35_1, t35_2, t35_3, t35_4, t35_5, t35_6, t35_7) => (laws_toVisit.f k a0_0 a0_1 a0_2 a0_3 a0_4).bind fun (t40_1, t40_2, t40_3, t40_4, t40_5) => (laws_toDeedS.f k a1).bind fun t42 => (impl_DoDeeds.f k t40_1 t40_2 t40_3 t40_4 t40_5 t42).bind fun (t46_1, t46_2, t46_3, t46_4, t46_5, t46_6, t46_7) => ((laws_eqVisit.f k t46_1 t46_2 t46_3 t46_4 t46_5 t35_1 t35_2 t35_3 t35_4 t35_5).bind fun t52 => (if (!t52) = true then some true else (if (t46_6 != t35_6) = true then some true else some (t46_7 != t35_7)))).bind fun y63 => (if y63 = true then some false else (laws_toVisit.f k a0_0 a0_1 a0_2 a0_3 a0_4).bind fun (t66_1, t66_2, t66_3, t66_4, t66_5) => (laws_eqVisit.f k t40_1 t40_2 t40_3 t40_4 t40_5 t66_1 t66_2 t66_3 t66_4 t66_5).bind fun t67 => (if (!t67) = true then some false else (laws_toDeedS.f k a1).bind fun t71 => (laws_eqDeedS.f k t42 t71).bind fun t72 => (if (!t72) = true then some false else (laws_markVisit.f k t40_1 t40_2 t40_3 t40_4 t40_5 1).bind fun (t76_1, t76_2, t76_3, t76_4) => (laws_markDeedS.f k t42 t76_1).bind fun (t79_1, t79_2) => ((if (decide (t79_1 < 0)) = true then some true else (laws_eqVisit.f k t46_1 t46_2 t46_3 t46_4 t46_5 t35_1 t35_2 t35_3 t35_4 t35_5).bind fun t85 => (if (!t85) = true then some true else (if (t46_6 != t35_6) = true then some true else some (t46_7 != t35_7))))).bind fun y97 => (if y97 = true then some false else (laws_markVisit.f k t46_1 t46_2 t46_3 t46_4 t46_5 1).bind fun (t100_1, t100_2, t100_3, t100_4) => (laws_heldVisit.f k t46_1 t100_2 t100_3 t100_4 t46_5 1).bind fun t103 => (if (decide (t103 < 0)) = true then some false else (if (t103 != t100_1) = true then some false else (laws_toVisit.f k a0_0 a0_1 a0_2 a0_3 a0_4).bind fun (t111_1, t111_2, t111_3, t111_4, t111_5) => (laws_toDeedS.f k a1).bind fun t113 => (impl_DoDeeds.f k t111_1 t111_2 t111_3 t111_4 t111_5 t113).bind fun (t114_1, t114_2, t114_3, t114_4, t114_5, t114_6, t114_7) => ((laws_eqVisit.f k t114_1 t114_2 t114_3 t114_4 t114_5 t35_1 t35_2 t35_3 t35_4 t35_5).bind fun t120 => (if (!t120) = true then some true else (if (t114_6 != t35_6) = true then some true else some (t114_7 != t35_7)))).bind fun y131 => (if y131 = true then some false else (laws_heldVisit.f k t46_1 t100_2 t100_3 t100_4 t46_5 1).bind fun t134 => (if (decide (t134 < 0)) = true then some false else (if (t134 != t100_1) = true then some false else some true)))))))))))

theorem laws_FnExactDoDeeds.ok {k : Nat}  {a0_0 : Int} {a0_1 : List (Int × Int × Int)} {a0_2 : List Int} {a0_3 : List Int} {a0_4 : Int} {a1 : List (Int × Int × Int × Int)} {r0 : Bool} (h : laws_FnExactDoDeeds.f k a0_0 a0_1 a0_2 a0_3 a0_4 a1 = some r0) (w : World) {va0_1 : Value} {va0_2 : Value} {va0_3 : Value} {va1 : Value} (hr_a0_1 : Rd w va0_1 a0_1) (hr_a0_2 : Rd w va0_2 a0_2) (hr_a0_3 : Rd w va0_3 a0_3) (hr_a1 : Rd w va1 a1) :
    Calls Tryz.prog 3 ([.agg ([.int .i64 a0_0, va0_1, va0_2, va0_3, .int .i64 a0_4].toArray), va1] : List Value).toArray w (fun e w' => e = .returned (.bool r0) ∧ Ext w w') := by
  unfold laws_FnExactDoDeeds.f at h
  have hl_va0_1 := hr_a0_1.len
  have hl_va0_2 := hr_a0_2.len
  have hl_va0_3 := hr_a0_3.len
  have hl_va1 := hr_a1.len
  refine Calls.of_tri (N := 140) Tryz.func3 rfl rfl rfl (Sep.nil (M := noM)) ?_
  refine Tri.seq ?_
  refine Tri.reg (l := [0, 1]) rfl ?_
  refine F.m rfl rfl rfl (wanted_none rfl) (m_boxG rfl rfl) ?_
  rintro _ _ ⟨b2_1, rfl, rfl⟩
  refine F.q rfl rfl rfl (wanted_none rfl) (r_assign rfl) ?_
  refine F.nil ?_
  refine Nrm.seq ?_
  refine Tri.seq ?_
  refine Tri.reg (l := [0]) rfl ?_
  refine F.q rfl rfl rfl (wanted_none rfl) (r_assign rfl) ?_
  refine F.nil ?_
  refine Nrm.seq ?_
  refine Tri.seq ?_
  obtain ⟨t22, h22, h⟩ := bind_some h
  refine Tri.reg (l := [0, 1, 2, 3]) rfl ?_
  refine F.q rfl rfl rfl (wanted_none rfl) (r_loadA ta27 ti27 rfl rfl (fun w hw => (box_cells (i := 0) rfl w hw))) ?_
  refine F.q rfl rfl rfl (wanted_none rfl) (r_move rfl) ?_
  refine F.qc rfl rfl rfl (wanted_none rfl) (q_callF (xs := _) rfl ok4 rfl rfl (fun w hw => laws_szVisit.ok h22 w ((fun _ hw => hr_a0_1.sep hw) w hw) ((fun _ hw => hr_a0_2.sep hw) w hw) ((fun _ hw => hr_a0_3.sep hw) w hw))) ?_
  refine F.q rfl rfl rfl (wanted_none rfl) (r_assign rfl) ?_
  refine F.nil ?_
  refine Nrm.seq ?_
  refine Tri.seq ?_
  refine Tri.seq ?_
  refine Tri.reg (l := [0, 1]) rfl ?_
  refine F.q rfl rfl rfl (wanted_none rfl) (r_move rfl) ?_
  refine F.q rfl rfl rfl (wanted_none rfl) (r_lss rfl rfl) ?_
  refine F.nil ?_
  refine Nrm.seq ?_
  refine Tri.cond (b := decide (t22 < 0)) rfl (fun g_1 => ?_) (fun g_1 => ?_)
  · replace h := if_tt g_1 h
    refine Tri.seq ?_
    refine Tri.reg (l := [0]) rfl ?_
    refine F.q rfl rfl rfl (wanted_none rfl) (r_assign rfl) ?_
    refine F.nil ?_
    refine Nrm.seq ?_
    refine Tri.ret ?_
    refine Rtn.then ?_
    cases h
    exact Rtn.body (.tmp rfl .nil) (fun w hw => ⟨rfl, hw.ext⟩)
  · replace h := if_ff g_1 h
    refine Tri.skip ?_
    refine Nrm.seq ?_
    refine Tri.seq ?_
    obtain ⟨t27, h27, h⟩ := bind_some h
    refine Tri.reg (l := [0, 1, 2, 3]) rfl ?_
    refine F.q rfl rfl rfl (wanted_none rfl) (r_move rfl) ?_
    refine F.q rfl rfl rfl (wanted_none rfl) (r_move rfl) ?_
    refine F.qc rfl rfl rfl (wanted_none rfl) (q_callF (xs := _) rfl ok5 rfl rfl (fun w hw => laws_szDeedS.ok h27 w ((fun _ hw => hr_a1.sep hw) w hw))) ?_
    refine F.q rfl rfl rfl (wanted_none rfl) (r_assign rfl) ?_
    refine F.nil ?_
    refine Nrm.seq ?_
    refine Tri.seq ?_
    refine Tri.seq ?_
    refine Tri.reg (l := [0, 1]) rfl ?_
    refine F.q rfl rfl rfl (wanted_none rfl) (r_move rfl) ?_
    refine F.q rfl rfl rfl (wanted_none rfl) (r_lss rfl rfl) ?_
    refine F.nil ?_
    refine Nrm.seq ?_
    refine Tri.cond (b := decide (t27 < 0)) rfl (fun g_2 => ?_) (fun g_2 => ?_)
    · replace h := if_tt g_2 h
      refine Tri.seq ?_
      refine Tri.reg (l := [0]) rfl ?_
      refine F.q rfl rfl rfl (wanted_none rfl) (r_assign rfl) ?_
      refine F.nil ?_
      refine Nrm.seq ?_
      refine Tri.ret ?_
      refine Rtn.then ?_
      cases h
      exact Rtn.body (.tmp rfl .nil) (fun w hw => ⟨rfl, hw.ext⟩)
    · replace h := if_ff g_2 h
      refine Tri.skip ?_
      refine Nrm.seq ?_
      refine Tri.seq ?_
      obtain ⟨⟨t32_1, t32_2, t32_3, t32_4, t32_5⟩, h32, h⟩ := bind_some h
      obtain ⟨t34, h34, h⟩ := bind_some h
      obtain ⟨⟨t35_1, t35_2, t35_3, t35_4, t35_5, t35_6, t35_7⟩, h35, h⟩ := bind_some h
      refine Tri.reg (l := [0, 1, 2, 3, 4, 5, 6, 7, 8, 9, 10, 11, 12]) rfl ?_
      refine F.q rfl rfl rfl (wanted_none rfl) (r_loadA ta27 ti27 rfl rfl (fun w hw => (box_cells (i := 0) rfl w hw))) ?_
      refine F.m rfl rfl rfl (wanted_none rfl) (m_callF (xs := _) rfl ok7 rfl rfl (fun w hw => laws_toVisit.ok h32 w ((fun _ hw => hr_a0_1.sep hw) w hw) ((fun _ hw => hr_a0_2.sep hw) w hw) ((fun _ hw => hr_a0_3.sep hw) w hw))) ?_
      rintro _ _ ⟨_, ⟨v32_1, S32_1, v32_2, S32_2, v32_3, S32_3, rfl, hl_v32_1, hl_v32_2, hl_v32_3, rfl⟩, rfl⟩
      refine F.q rfl rfl rfl (wanted_none rfl) (r_move rfl) ?_
      refine F.m rfl rfl rfl (wanted_none rfl) (m_callF (xs := _) rfl ok8 rfl rfl (fun w hw => laws_toDeedS.ok h34 w ((fun _ hw => hr_a1.sep hw) w hw))) ?_
      rintro v34_1 _ ⟨_, ⟨S34_1, hl_v34_1, rfl⟩, rfl⟩
      refine F.m rfl rfl rfl (wanted_none rfl) (m_callF (xs := _) rfl ok6 rfl rfl (fun w hw => spec_DoDeeds.ok h35 w ((rd_sl (i := 1) rfl) w hw) ((rd_sl (i := 2) rfl) w hw) ((rd_sl (i := 3) rfl) w hw) ((rd_sl (i := 0) rfl) w hw))) ?_
      rintro _ _ ⟨_, ⟨v35_1, S35_1, v35_2, S35_2, v35_3, S35_3, rfl, hl_v35_1, hl_v35_2, hl_v35_3, rfl⟩, rfl⟩
      refine F.q rfl rfl rfl (wanted_none rfl) (r_move rfl) ?_
      refine F.q rfl rfl rfl (wanted_none rfl) (r_extract rfl rfl) ?_
      refine F.q rfl rfl rfl (wanted_none rfl) (r_extract rfl rfl) ?_
      refine F.q rfl rfl rfl (wanted_none rfl) (r_extract rfl rfl) ?_
      refine F.m rfl rfl rfl (wanted_none rfl) (m_alloc ti33) ?_
      rintro _ _ ⟨b6_1, rfl, rfl⟩
      refine F.ef0 rfl rfl (wanted_none rfl) (d_storeG0 (i := 0) (cs2 := [.int .i64 t35_1, v35_1, v35_2, v35_3, .int .i64 t35_5]) ti33 rfl rfl rfl rfl rfl (Nat.le_of_ble_eq_true rfl) (lf_cons rfl (lf_cons (sl_leaf hl_v35_1) (lf_cons (sl_leaf hl_v35_2) (lf_cons (sl_leaf hl_v35_3) (lf_cons rfl lf_nil)))))) ?_
      rintro _ _ ⟨rfl, rfl⟩
      refine F.q rfl rfl rfl (wanted_none rfl) (r_assign rfl) ?_
      refine F.q rfl rfl rfl (wanted_none rfl) (r_assign rfl) ?_
      refine F.nil ?_
      refine Nrm.seq ?_
      refine Tri.seq ?_
      obtain ⟨⟨t40_1, t40_2, t40_3, t40_4, t40_5⟩, h40, h⟩ := bind_some h
      refine Tri.reg (l := [0, 1, 2, 3]) rfl ?_
      refine F.q rfl rfl rfl (wanted_none rfl) (r_loadA ta27 ti27 rfl rfl (fun w hw => (box_cells (i := 8) rfl w hw))) ?_
      refine F.m rfl rfl rfl (wanted_none rfl) (m_callF (xs := _) rfl ok7 rfl rfl (fun w hw => laws_toVisit.ok h40 w ((fun _ hw => hr_a0_1.sep hw) w hw) ((fun _ hw => hr_a0_2.sep hw) w hw) ((fun _ hw => hr_a0_3.sep hw) w hw))) ?_
      rintro _ _ ⟨_, ⟨v40_1, S40_1, v40_2, S40_2, v40_3, S40_3, rfl, hl_v40_1, hl_v40_2, hl_v40_3, rfl⟩, rfl⟩
      refine F.m rfl rfl rfl (wanted_none rfl) (m_alloc ti33) ?_
      rintro _ _ ⟨b9_1, rfl, rfl⟩
      refine F.ef0 rfl rfl (wanted_none rfl) (d_storeG0 (i := 0) (cs2 := [.int .i64 t40_1, v40_1, v40_2, v40_3, .int .i64 t40_5]) ti33 rfl rfl rfl rfl rfl (Nat.le_of_ble_eq_true rfl) (lf_cons rfl (lf_cons (sl_leaf hl_v40_1) (lf_cons (sl_leaf hl_v40_2) (lf_cons (sl_leaf hl_v40_3) (lf_cons rfl lf_nil)))))) ?_
      rintro _ _ ⟨rfl, rfl⟩
      refine F.nil ?_
      refine Nrm.seq ?_
      refine Tri.seq ?_
      obtain ⟨t42, h42, h⟩ := bind_some h
      refine Tri.reg (l := [0, 1, 2]) rfl ?_
      refine F.q rfl rfl rfl (wanted_none rfl) (r_move rfl) ?_
      refine F.m rfl rfl rfl (wanted_none rfl) (m_callF (xs := _) rfl ok8 rfl rfl (fun w hw => laws_toDeedS.ok h42 w ((fun _ hw => hr_a1.sep hw) w hw))) ?_
      rintro v42_1 _ ⟨_, ⟨S42_1, hl_v42_1, rfl⟩, rfl⟩
      refine F.q rfl rfl rfl (wanted_none rfl) (r_assign rfl) ?_
      refine F.nil ?_
      refine Nrm.seq ?_
      refine Tri.seq ?_
      obtain ⟨⟨t46_1, t46_2, t46_3, t46_4, t46_5, t46_6, t46_7⟩, h46, h⟩ := bind_some h
      refine Tri.reg (l := [0, 1, 2, 3, 4, 5, 6, 7, 8, 9, 10]) rfl ?_
      refine F.q rfl rfl rfl (wanted_none rfl) (r_loadA ta33 ti33 rfl rfl (fun w hw => (box_cells (i := 1) rfl w hw))) ?_
      refine F.q rfl rfl rfl (wanted_none rfl) (r_move rfl) ?_
      refine F.m rfl rfl rfl (wanted_none rfl) (m_callF (xs := _) rfl ok9 rfl rfl (fun w hw => impl_DoDeeds.ok h46 w ((rd_sl (i := 2) rfl) w hw) ((rd_sl (i := 3) rfl) w hw) ((rd_sl (i := 4) rfl) w hw) ((rd_sl (i := 0) rfl) w hw))) ?_
      rintro _ _ ⟨_, ⟨v46_1, S46_1, v46_2, S46_2, v46_3, S46_3, rfl, hl_v46_1, hl_v46_2, hl_v46_3, rfl⟩, rfl⟩
      refine F.q rfl rfl rfl (wanted_none rfl) (r_move rfl) ?_
      refine F.q rfl rfl rfl (wanted_none rfl) (r_extract rfl rfl) ?_
      refine F.q rfl rfl rfl (wanted_none rfl) (r_extract rfl rfl) ?_
      refine F.q rfl rfl rfl (wanted_none rfl) (r_extract rfl rfl) ?_
      refine F.m rfl rfl rfl (wanted_none rfl) (m_alloc ti33) ?_
      rintro _ _ ⟨b11_1, rfl, rfl⟩
      refine F.ef0 rfl rfl (wanted_none rfl) (d_storeG0 (i := 0) (cs2 := [.int .i64 t46_1, v46_1, v46_2, v46_3, .int .i64 t46_5]) ti33 rfl rfl rfl rfl rfl (Nat.le_of_ble_eq_true rfl) (lf_cons rfl (lf_cons (sl_leaf hl_v46_1) (lf_cons (sl_leaf hl_v46_2) (lf_cons (sl_leaf hl_v46_3) (lf_cons rfl lf_nil)))))) ?_
      rintro _ _ ⟨rfl, rfl⟩
      refine F.q rfl rfl rfl (wanted_none rfl) (r_assign rfl) ?_
      refine F.q rfl rfl rfl (wanted_none rfl) (r_assign rfl) ?_
      refine F.nil ?_
      refine Nrm.seq ?_
      refine Tri.seq ?_
      refine Tri.seq ?_
      obtain ⟨y63, hE_1, h⟩ := bind_some h
      refine Tri.cut (fun e' C' => e' = [(1, va1), (2, .pointer (some ⟨b2_1, 0, none⟩)), (6, .pointer (some ⟨b6_1, 0, none⟩)), (7, .int .i64 t35_6), (8, .bool t35_7), (9, .pointer (some ⟨b9_1, 0, none⟩)), (10, v42_1), (11, .pointer (some ⟨b11_1, 0, none⟩)), (12, .int .i64 t46_6), (13, .bool t46_7), (63, .bool y63)] ∧ C' = Sep w noM [R.box b11_1 33 [.int .i64 t46_1, v46_1, v46_2, v46_3, .int .i64 t46_5], R.box b9_1 33 [.int .i64 t40_1, v40_1, v40_2, v40_3, .int .i64 t40_5], R.box b6_1 33 [.int .i64 t35_1, v35_1, v35_2, v35_3, .int .i64 t35_5], R.box b2_1 27 [.int .i64 a0_0, va0_1, va0_2, va0_3, .int .i64 a0_4], R.sl S35_1 v35_1 (t35_2 : List (Int × Int × Int)), R.sl S35_2 v35_2 (t35_3 : List (Int)), R.sl S35_3 v35_3 (t35_4 : List (Int)), R.sl S40_1 v40_1 (t40_2 : List (Int × Int × Int)), R.sl S40_2 v40_2 (t40_3 : List (Int)), R.sl S40_3 v40_3 (t40_4 : List (Int)), R.sl S42_1 v42_1 (t42 : List (Int × Int × Int × Int)), R.sl S46_1 v46_1 (t46_2 : List (Int × Int × Int)), R.sl S46_2 v46_2 (t46_3 : List (Int)), R.sl S46_3 v46_3 (t46_4 : List (Int))]) ?_ (fun hj_1 => ?_)
      · rintro _ _ ⟨rfl, rfl⟩
        refine Nrm.seq ?_
        refine Tri.cond (b := y63) rfl (fun g_3 => ?_) (fun g_3 => ?_)
        · replace h := if_tt g_3 h
          refine Tri.seq ?_
          refine Tri.reg (l := [0]) rfl ?_
          refine F.q rfl rfl rfl (wanted_none rfl) (r_assign rfl) ?_
          refine F.nil ?_
          refine Nrm.seq ?_
          refine Tri.ret ?_
          refine Rtn.then ?_
          cases h
          exact Rtn.body (.tmp rfl .nil) (fun w hw => ⟨rfl, hw.ext⟩)
        · replace h := if_ff g_3 h
          refine Tri.skip ?_
          refine Nrm.seq ?_
          refine Tri.seq ?_
          refine Tri.seq ?_
          obtain ⟨⟨t66_1, t66_2, t66_3, t66_4, t66_5⟩, h66, h⟩ := bind_some h
          obtain ⟨t67, h67, h⟩ := bind_some h
          refine Tri.drawA mixedT Sep.up [(0, true), (1, true), (2, false), (3, true), (4, true)] [] (by kernel_rfl) ?_
          refine S.q rfl rfl rfl (wanted_none rfl) (r_loadA ta33 ti33 rfl rfl (fun w hw => (box_cells (i := 1) rfl w hw))) ?_
          refine S.q rfl rfl rfl (wanted_none rfl) (r_loadA ta27 ti27 rfl rfl (fun w hw => (box_cells (i := 3) rfl w hw))) ?_
          refine S.m rfl rfl rfl (wanted_none rfl) (m_callF (xs := _) rfl ok7 rfl rfl (fun w hw => laws_toVisit.ok h66 w ((fun _ hw => hr_a0_1.sep hw) w hw) ((fun _ hw => hr_a0_2.sep hw) w hw) ((fun _ hw => hr_a0_3.sep hw) w hw))) ?_
          rintro _ _ ⟨_, ⟨v66_4, S66_4, v66_5, S66_5, v66_6, S66_6, rfl, hl_v66_4, hl_v66_5, hl_v66_6, rfl⟩, rfl⟩
          refine S.qc rfl rfl rfl (wanted_none rfl) (q_callF (xs := _) rfl ok10 rfl rfl (fun w hw => laws_eqVisit.ok h67 w ((rd_sl (i := 10) rfl) w hw) ((rd_sl (i := 11) rfl) w hw) ((rd_sl (i := 12) rfl) w hw) ((rd_sl (i := 0) rfl) w hw) ((rd_sl (i := 1) rfl) w hw) ((rd_sl (i := 2) rfl) w hw))) ?_
          refine S.q rfl rfl rfl (wanted_none rfl) (r_not rfl) ?_
          refine S.nil ?_
          refine F.nil ?_
          refine Nrm.seq ?_
          refine Tri.cond (b := !t67) rfl (fun g_4 => ?_) (fun g_4 => ?_)
          · replace h := if_tt g_4 h
            refine Tri.seq ?_
            refine Tri.reg (l := [0]) rfl ?_
            refine F.q rfl rfl rfl (wanted_none rfl) (r_assign rfl) ?_
            refine F.nil ?_
            refine Nrm.seq ?_
            refine Tri.ret ?_
            refine Rtn.then ?_
            cases h
            exact Rtn.body (.tmp rfl .nil) (fun w hw => ⟨rfl, hw.ext⟩)
          · replace h := if_ff g_4 h
            refine Tri.skip ?_
            refine Nrm.seq ?_
            refine Tri.seq ?_
            refine Tri.seq ?_
            obtain ⟨t71, h71, h⟩ := bind_some h
            obtain ⟨t72, h72, h⟩ := bind_some h
            refine Tri.reg (l := [0, 1, 2, 3, 4]) rfl ?_
            refine F.q rfl rfl rfl (wanted_none rfl) (r_move rfl) ?_
            refine F.q rfl rfl rfl (wanted_none rfl) (r_move rfl) ?_
            refine F.m rfl rfl rfl (wanted_none rfl) (m_callF (xs := _) rfl ok8 rfl rfl (fun w hw => laws_toDeedS.ok h71 w ((fun _ hw => hr_a1.sep hw) w hw))) ?_
            rintro v71_1 _ ⟨_, ⟨S71_1, hl_v71_1, rfl⟩, rfl⟩
            refine F.qc rfl rfl rfl (wanted_none rfl) (q_callF (xs := _) rfl ok11 rfl rfl (fun w hw => laws_eqDeedS.ok h72 w ((rd_sl (i := 14) rfl) w hw) ((rd_sl (i := 0) rfl) w hw))) ?_
            refine F.q rfl rfl rfl (wanted_none rfl) (r_not rfl) ?_
            refine F.nil ?_
            refine Nrm.seq ?_
            refine Tri.cond (b := !t72) rfl (fun g_5 => ?_) (fun g_5 => ?_)
            · replace h := if_tt g_5 h
              refine Tri.seq ?_
              refine Tri.reg (l := [0]) rfl ?_
              refine F.q rfl rfl rfl (wanted_none rfl) (r_assign rfl) ?_
              refine F.nil ?_
              refine Nrm.seq ?_
              refine Tri.ret ?_
              refine Rtn.then ?_
              cases h
              exact Rtn.body (.tmp rfl .nil) (fun w hw => ⟨rfl, hw.ext⟩)
            · replace h := if_ff g_5 h
              refine Tri.skip ?_
              refine Nrm.seq ?_
              refine Tri.seq ?_
              refine Tri.reg (l := [0]) rfl ?_
              refine F.q rfl rfl rfl (wanted_none rfl) (r_assign rfl) ?_
              refine F.nil ?_
              refine Nrm.seq ?_
              refine Tri.seq ?_
              obtain ⟨⟨t76_1, t76_2, t76_3, t76_4⟩, h76, h⟩ := bind_some h
              refine Tri.reg (l := [0, 1, 2, 3]) rfl ?_
              refine F.q rfl rfl rfl (wanted_none rfl) (r_loadA ta33 ti33 rfl rfl (fun w hw => (box_cells (i := 5) rfl w hw))) ?_
              refine F.q rfl rfl rfl (wanted_none rfl) (r_move rfl) ?_
              refine F.ef rfl rfl rfl (wanted_none rfl) (d_callM (xs := _) (cs := [R.sl S40_1 v40_1 (t40_2 : List (Int × Int × Int)), R.sl S40_2 v40_2 (t40_3 : List (Int)), R.sl S40_3 v40_3 (t40_4 : List (Int))]) (rest := [R.sl S71_1 v71_1 (t71 : List (Int × Int × Int × Int)), R.sl S66_4 v66_4 (t66_2 : List (Int × Int × Int)), R.sl S66_5 v66_5 (t66_3 : List (Int)), R.sl S66_6 v66_6 (t66_4 : List (Int)), R.box b11_1 33 [.int .i64 t46_1, v46_1, v46_2, v46_3, .int .i64 t46_5], R.box b9_1 33 [.int .i64 t40_1, v40_1, v40_2, v40_3, .int .i64 t40_5], R.box b6_1 33 [.int .i64 t35_1, v35_1, v35_2, v35_3, .int .i64 t35_5], R.box b2_1 27 [.int .i64 a0_0, va0_1, va0_2, va0_3, .int .i64 a0_4], R.sl S35_1 v35_1 (t35_2 : List (Int × Int × Int)), R.sl S35_2 v35_2 (t35_3 : List (Int)), R.sl S35_3 v35_3 (t35_4 : List (Int)), R.sl S42_1 v42_1 (t42 : List (Int × Int × Int × Int)), R.sl S46_1 v46_1 (t46_2 : List (Int × Int × Int)), R.sl S46_2 v46_2 (t46_3 : List (Int)), R.sl S46_3 v46_3 (t46_4 : List (Int))]) [11, 12, 13] [0, 1, 2, 3, 4, 5, 6, 7, 8, 9, 10, 14, 15, 16, 17] rfl ok12 rfl rfl rfl rfl (fun w hw => laws_markVisit.ok h76 w hl_v40_1 hl_v40_2 hl_v40_3 (Sep.sub hw))) ?_
              rintro _ _ ⟨_, ⟨rfl, hl_t76_2, hl_t76_3, hl_t76_4, rfl⟩, rfl⟩
              refine F.q rfl rfl rfl (wanted_none rfl) (r_assign rfl) ?_
              refine F.nil ?_
              refine Nrm.seq ?_
              refine Tri.seq ?_
              obtain ⟨⟨t79_1, t79_2⟩, h79, h⟩ := bind_some h
              refine Tri.reg (l := [0, 1, 2, 3]) rfl ?_
              refine F.q rfl rfl rfl (wanted_none rfl) (r_move rfl) ?_
              refine F.q rfl rfl rfl (wanted_none rfl) (r_move rfl) ?_
              refine F.ef rfl rfl rfl (wanted_none rfl) (d_callM (xs := _) (cs := [R.sl S42_1 v42_1 (t42 : List (Int × Int × Int × Int))]) (rest := [R.sl S40_1 v40_1 (t76_2 : List (Int × Int × Int)), R.sl S40_2 v40_2 (t76_3 : List (Int)), R.sl S40_3 v40_3 (t76_4 : List (Int)), R.sl S71_1 v71_1 (t71 : List (Int × Int × Int × Int)), R.sl S66_4 v66_4 (t66_2 : List (Int × Int × Int)), R.sl S66_5 v66_5 (t66_3 : List (Int)), R.sl S66_6 v66_6 (t66_4 : List (Int)), R.box b11_1 33 [.int .i64 t46_1, v46_1, v46_2, v46_3, .int .i64 t46_5], R.box b9_1 33 [.int .i64 t40_1, v40_1, v40_2, v40_3, .int .i64 t40_5], R.box b6_1 33 [.int .i64 t35_1, v35_1, v35_2, v35_3, .int .i64 t35_5], R.box b2_1 27 [.int .i64 a0_0, va0_1, va0_2, va0_3, .int .i64 a0_4], R.sl S35_1 v35_1 (t35_2 : List (Int × Int × Int)), R.sl S35_2 v35_2 (t35_3 : List (Int)), R.sl S35_3 v35_3 (t35_4 : List (Int)), R.sl S46_1 v46_1 (t46_2 : List (Int × Int × Int)), R.sl S46_2 v46_2 (t46_3 : List (Int)), R.sl S46_3 v46_3 (t46_4 : List (Int))]) [14] [0, 1, 2, 3, 4, 5, 6, 7, 8, 9, 10, 11, 12, 13, 15, 16, 17] rfl ok13 rfl rfl rfl rfl (fun w hw => laws_markDeedS.ok h79 w hl_v42_1 (Sep.sub hw))) ?_
              rintro _ _ ⟨_, ⟨rfl, hl_t79_2, rfl⟩, rfl⟩
              refine F.q rfl rfl rfl (wanted_none rfl) (r_assign rfl) ?_
              refine F.nil ?_
              refine Nrm.seq ?_
              refine Tri.seq ?_
              refine Tri.seq ?_
              obtain ⟨y97, hE_2, h⟩ := bind_some h
              refine Tri.cut (fun e' C' => e' = [(1, va1), (2, .pointer (some ⟨b2_1, 0, none⟩)), (6, .pointer (some ⟨b6_1, 0, none⟩)), (7, .int .i64 t35_6), (8, .bool t35_7), (11, .pointer (some ⟨b11_1, 0, none⟩)), (97, .bool y97)] ∧ C' = Sep w noM [R.box b11_1 33 [.int .i64 t46_1, v46_1, v46_2, v46_3, .int .i64 t46_5], R.box b6_1 33 [.int .i64 t35_1, v35_1, v35_2, v35_3, .int .i64 t35_5], R.box b2_1 27 [.int .i64 a0_0, va0_1, va0_2, va0_3, .int .i64 a0_4], R.sl S35_1 v35_1 (t35_2 : List (Int × Int × Int)), R.sl S35_2 v35_2 (t35_3 : List (Int)), R.sl S35_3 v35_3 (t35_4 : List (Int)), R.sl S46_1 v46_1 (t46_2 : List (Int × Int × Int)), R.sl S46_2 v46_2 (t46_3 : List (Int)), R.sl S46_3 v46_3 (t46_4 : List (Int))]) ?_ (fun hj_2 => ?_)
              · rintro _ _ ⟨rfl, rfl⟩
                refine Nrm.seq ?_
                refine Tri.cond (b := y97) rfl (fun g_6 => ?_) (fun g_6 => ?_)
                · replace h := if_tt g_6 h
                  refine Tri.seq ?_
                  refine Tri.reg (l := [0]) rfl ?_
                  refine F.q rfl rfl rfl (wanted_none rfl) (r_assign rfl) ?_
                  refine F.nil ?_
                  refine Nrm.seq ?_
                  refine Tri.ret ?_
                  refine Rtn.then ?_
                  cases h
                  exact Rtn.body (.tmp rfl .nil) (fun w hw => ⟨rfl, hw.ext⟩)
                · replace h := if_ff g_6 h
                  refine Tri.skip ?_
                  refine Nrm.seq ?_
                  refine Tri.seq ?_
                  refine Tri.reg (l := [0]) rfl ?_
                  refine F.q rfl rfl rfl (wanted_none rfl) (r_assign rfl) ?_
                  refine F.nil ?_
                  refine Nrm.seq ?_
                  refine Tri.seq ?_
                  obtain ⟨⟨t100_1, t100_2, t100_3, t100_4⟩, h100, h⟩ := bind_some h
                  refine Tri.reg (l := [0, 1, 2, 3]) rfl ?_
                  refine F.q rfl rfl rfl (wanted_none rfl) (r_loadA ta33 ti33 rfl rfl (fun w hw => (box_cells (i := 0) rfl w hw))) ?_
                  refine F.q rfl rfl rfl (wanted_none rfl) (r_move rfl) ?_
                  refine F.ef rfl rfl rfl (wanted_none rfl) (d_callM (xs := _) (cs := [R.sl S46_1 v46_1 (t46_2 : List (Int × Int × Int)), R.sl S46_2 v46_2 (t46_3 : List (Int)), R.sl S46_3 v46_3 (t46_4 : List (Int))]) (rest := [R.box b11_1 33 [.int .i64 t46_1, v46_1, v46_2, v46_3, .int .i64 t46_5], R.box b6_1 33 [.int .i64 t35_1, v35_1, v35_2, v35_3, .int .i64 t35_5], R.box b2_1 27 [.int .i64 a0_0, va0_1, va0_2, va0_3, .int .i64 a0_4], R.sl S35_1 v35_1 (t35_2 : List (Int × Int × Int)), R.sl S35_2 v35_2 (t35_3 : List (Int)), R.sl S35_3 v35_3 (t35_4 : List (Int))]) [6, 7, 8] [0, 1, 2, 3, 4, 5] rfl ok12 rfl rfl rfl rfl (fun w hw => laws_markVisit.ok h100 w hl_v46_1 hl_v46_2 hl_v46_3 (Sep.sub hw))) ?_
                  rintro _ _ ⟨_, ⟨rfl, hl_t100_2, hl_t100_3, hl_t100_4, rfl⟩, rfl⟩
                  refine F.q rfl rfl rfl (wanted_none rfl) (r_assign rfl) ?_
                  refine F.nil ?_
                  refine Nrm.seq ?_
                  refine Tri.seq ?_
                  refine Tri.reg (l := [0]) rfl ?_
                  refine F.q rfl rfl rfl (wanted_none rfl) (r_assign rfl) ?_
                  refine F.nil ?_
                  refine Nrm.seq ?_
                  refine Tri.seq ?_
                  obtain ⟨t103, h103, h⟩ := bind_some h
                  refine Tri.reg (l := [0, 1, 2, 3]) rfl ?_
                  refine F.q rfl rfl rfl (wanted_none rfl) (r_loadA ta33 ti33 rfl rfl (fun w hw => (box_cells (i := 3) rfl w hw))) ?_
                  refine F.q rfl rfl rfl (wanted_none rfl) (r_move rfl) ?_
                  refine F.qc rfl rfl rfl (wanted_none rfl) (q_callF (xs := _) rfl ok14 rfl rfl (fun w hw => laws_heldVisit.ok h103 w ((rd_sl (i := 0) rfl) w hw) ((rd_sl (i := 1) rfl) w hw) ((rd_sl (i := 2) rfl) w hw))) ?_
                  refine F.q rfl rfl rfl (wanted_none rfl) (r_assign rfl) ?_
                  refine F.nil ?_
                  refine Nrm.seq ?_
                  refine Tri.seq ?_
                  refine Tri.seq ?_
                  refine Tri.reg (l := [0, 1]) rfl ?_
                  refine F.q rfl rfl rfl (wanted_none rfl) (r_move rfl) ?_
                  refine F.q rfl rfl rfl (wanted_none rfl) (r_lss rfl rfl) ?_
                  refine F.nil ?_
                  refine Nrm.seq ?_
                  refine Tri.cond (b := decide (t103 < 0)) rfl (fun g_7 => ?_) (fun g_7 => ?_)
                  · replace h := if_tt g_7 h
                    refine Tri.seq ?_
                    refine Tri.reg (l := [0]) rfl ?_
                    refine F.q rfl rfl rfl (wanted_none rfl) (r_assign rfl) ?_
                    refine F.nil ?_
                    refine Nrm.seq ?_
                    refine Tri.ret ?_
                    refine Rtn.then ?_
                    cases h
                    exact Rtn.body (.tmp rfl .nil) (fun w hw => ⟨rfl, hw.ext⟩)
                  · replace h := if_ff g_7 h
                    refine Tri.skip ?_
                    refine Nrm.seq ?_
                    refine Tri.seq ?_
                    refine Tri.seq ?_
                    refine Tri.reg (l := [0, 1, 2]) rfl ?_
                    refine F.q rfl rfl rfl (wanted_none rfl) (r_move rfl) ?_
                    refine F.q rfl rfl rfl (wanted_none rfl) (r_move rfl) ?_
                    refine F.q rfl rfl rfl (wanted_none rfl) (r_neq rfl rfl) ?_
                    refine F.nil ?_
                    refine Nrm.seq ?_
                    refine Tri.cond (b := t103 != t100_1) rfl (fun g_8 => ?_) (fun g_8 => ?_)
                    · replace h := if_tt g_8 h
                      refine Tri.seq ?_
                      refine Tri.reg (l := [0]) rfl ?_
                      refine F.q rfl rfl rfl (wanted_none rfl) (r_assign rfl) ?_
                      refine F.nil ?_
                      refine Nrm.seq ?_
                      refine Tri.ret ?_
                      refine Rtn.then ?_
                      cases h
                      exact Rtn.body (.tmp rfl .nil) (fun w hw => ⟨rfl, hw.ext⟩)
                    · replace h := if_ff g_8 h
                      refine Tri.skip ?_
                      refine Nrm.seq ?_
                      refine Tri.seq ?_
                      obtain ⟨⟨t111_1, t111_2, t111_3, t111_4, t111_5⟩, h111, h⟩ := bind_some h
                      obtain ⟨t113, h113, h⟩ := bind_some h
                      obtain ⟨⟨t114_1, t114_2, t114_3, t114_4, t114_5, t114_6, t114_7⟩, h114, h⟩ := bind_some h
                      refine Tri.reg (l := [0, 1, 2, 3, 4, 5, 6, 7, 8, 9, 10, 11, 12]) rfl ?_
                      refine F.q rfl rfl rfl (wanted_none rfl) (r_loadA ta27 ti27 rfl rfl (fun w hw => (box_cells (i := 5) rfl w hw))) ?_
                      refine F.m rfl rfl rfl (wanted_none rfl) (m_callF (xs := _) rfl ok7 rfl rfl (fun w hw => laws_toVisit.ok h111 w ((fun _ hw => hr_a0_1.sep hw) w hw) ((fun _ hw => hr_a0_2.sep hw) w hw) ((fun _ hw => hr_a0_3.sep hw) w hw))) ?_
                      rintro _ _ ⟨_, ⟨v111_1, S111_1, v111_2, S111_2, v111_3, S111_3, rfl, hl_v111_1, hl_v111_2, hl_v111_3, rfl⟩, rfl⟩
                      refine F.q rfl rfl rfl (wanted_none rfl) (r_move rfl) ?_
                      refine F.m rfl rfl rfl (wanted_none rfl) (m_callF (xs := _) rfl ok8 rfl rfl (fun w hw => laws_toDeedS.ok h113 w ((fun _ hw => hr_a1.sep hw) w hw))) ?_
                      rintro v113_1 _ ⟨_, ⟨S113_1, hl_v113_1, rfl⟩, rfl⟩
                      refine F.m rfl rfl rfl (wanted_none rfl) (m_callF (xs := _) rfl ok9 rfl rfl (fun w hw => impl_DoDeeds.ok h114 w ((rd_sl (i := 1) rfl) w hw) ((rd_sl (i := 2) rfl) w hw) ((rd_sl (i := 3) rfl) w hw) ((rd_sl (i := 0) rfl) w hw))) ?_
                      rintro _ _ ⟨_, ⟨v114_1, S114_1, v114_2, S114_2, v114_3, S114_3, rfl, hl_v114_1, hl_v114_2, hl_v114_3, rfl⟩, rfl⟩
                      refine F.q rfl rfl rfl (wanted_none rfl) (r_move rfl) ?_
                      refine F.q rfl rfl rfl (wanted_none rfl) (r_extract rfl rfl) ?_
                      refine F.q rfl rfl rfl (wanted_none rfl) (r_extract rfl rfl) ?_
                      refine F.q rfl rfl rfl (wanted_none rfl) (r_extract rfl rfl) ?_
                      refine F.m rfl rfl rfl (wanted_none rfl) (m_alloc ti33) ?_
                      rintro _ _ ⟨b17_1, rfl, rfl⟩
                      refine F.ef0 rfl rfl (wanted_none rfl) (d_storeG0 (i := 0) (cs2 := [.int .i64 t114_1, v114_1, v114_2, v114_3, .int .i64 t114_5]) ti33 rfl rfl rfl rfl rfl (Nat.le_of_ble_eq_true rfl) (lf_cons rfl (lf_cons (sl_leaf hl_v114_1) (lf_cons (sl_leaf hl_v114_2) (lf_cons (sl_leaf hl_v114_3) (lf_cons rfl lf_nil)))))) ?_
                      rintro _ _ ⟨rfl, rfl⟩
                      refine F.q rfl rfl rfl (wanted_none rfl) (r_assign rfl) ?_
                      refine F.q rfl rfl rfl (wanted_none rfl) (r_assign rfl) ?_
                      refine F.nil ?_
                      refine Nrm.seq ?_
                      refine Tri.seq ?_
                      refine Tri.seq ?_
                      obtain ⟨y131, hE_3, h⟩ := bind_some h
                      refine Tri.cut (fun e' C' => e' = [(11, .pointer (some ⟨b11_1, 0, none⟩)), (15, .int .i64 t100_1), (131, .bool y131)] ∧ C' = Sep w noM [R.box b11_1 33 [.int .i64 t46_1, v46_1, v46_2, v46_3, .int .i64 t46_5], R.sl S46_1 v46_1 (t100_2 : List (Int × Int × Int)), R.sl S46_2 v46_2 (t100_3 : List (Int)), R.sl S46_3 v46_3 (t100_4 : List (Int))]) ?_ (fun hj_3 => ?_)
                      · rintro _ _ ⟨rfl, rfl⟩
                        refine Nrm.seq ?_
                        refine Tri.cond (b := y131) rfl (fun g_9 => ?_) (fun g_9 => ?_)
                        · replace h := if_tt g_9 h
                          refine Tri.seq ?_
                          refine Tri.reg (l := [0]) rfl ?_
                          refine F.q rfl rfl rfl (wanted_none rfl) (r_assign rfl) ?_
                          refine F.nil ?_
                          refine Nrm.seq ?_
                          refine Tri.ret ?_
                          refine Rtn.then ?_
                          cases h
                          exact Rtn.body (.tmp rfl .nil) (fun w hw => ⟨rfl, hw.ext⟩)
                        · replace h := if_ff g_9 h
                          refine Tri.skip ?_
                          refine Nrm.seq ?_
                          refine Tri.seq ?_
                          refine Tri.reg (l := [0]) rfl ?_
                          refine F.q rfl rfl rfl (wanted_none rfl) (r_assign rfl) ?_
                          refine F.nil ?_
                          refine Nrm.seq ?_
                          refine Tri.seq ?_
                          obtain ⟨t134, h134, h⟩ := bind_some h
                          refine Tri.reg (l := [0, 1, 2, 3]) rfl ?_
                          refine F.q rfl rfl rfl (wanted_none rfl) (r_loadA ta33 ti33 rfl rfl (fun w hw => (box_cells (i := 0) rfl w hw))) ?_
                          refine F.q rfl rfl rfl (wanted_none rfl) (r_move rfl) ?_
                          refine F.qc rfl rfl rfl (wanted_none rfl) (q_callF (xs := _) rfl ok14 rfl rfl (fun w hw => laws_heldVisit.ok h134 w ((rd_sl (i := 1) rfl) w hw) ((rd_sl (i := 2) rfl) w hw) ((rd_sl (i := 3) rfl) w hw))) ?_
                          refine F.q rfl rfl rfl (wanted_none rfl) (r_assign rfl) ?_
                          refine F.nil ?_
                          refine Nrm.seq ?_
                          refine Tri.seq ?_
                          refine Tri.seq ?_
                          refine Tri.reg (l := [0, 1]) rfl ?_
                          refine F.q rfl rfl rfl (wanted_none rfl) (r_move rfl) ?_
                          refine F.q rfl rfl rfl (wanted_none rfl) (r_lss rfl rfl) ?_
                          refine F.nil ?_
                          refine Nrm.seq ?_
                          refine Tri.cond (b := decide (t134 < 0)) rfl (fun g_10 => ?_) (fun g_10 => ?_)
                          · replace h := if_tt g_10 h
                            refine Tri.seq ?_
                            refine Tri.reg (l := [0]) rfl ?_
                            refine F.q rfl rfl rfl (wanted_none rfl) (r_assign rfl) ?_
                            refine F.nil ?_
                            refine Nrm.seq ?_
                            refine Tri.ret ?_
                            refine Rtn.then ?_
                            cases h
                            exact Rtn.body (.tmp rfl .nil) (fun w hw => ⟨rfl, hw.ext⟩)
                          · replace h := if_ff g_10 h
                            refine Tri.skip ?_
                            refine Nrm.seq ?_
                            refine Tri.seq ?_
                            refine Tri.seq ?_
                            refine Tri.reg (l := [0, 1, 2]) rfl ?_
                            refine F.q rfl rfl rfl (wanted_none rfl) (r_move rfl) ?_
                            refine F.q rfl rfl rfl (wanted_none rfl) (r_move rfl) ?_
                            refine F.q rfl rfl rfl (wanted_none rfl) (r_neq rfl rfl) ?_
                            refine F.nil ?_
                            refine Nrm.seq ?_
                            refine Tri.cond (b := t134 != t100_1) rfl (fun g_11 => ?_) (fun g_11 => ?_)
                            · replace h := if_tt g_11 h
                              refine Tri.seq ?_
                              refine Tri.reg (l := [0]) rfl ?_
                              refine F.q rfl rfl rfl (wanted_none rfl) (r_assign rfl) ?_
                              refine F.nil ?_
                              refine Nrm.seq ?_
                              refine Tri.ret ?_
                              refine Rtn.then ?_
                              cases h
                              exact Rtn.body (.tmp rfl .nil) (fun w hw => ⟨rfl, hw.ext⟩)
                            · replace h := if_ff g_11 h
                              refine Tri.skip ?_
                              refine Nrm.seq ?_
                              refine Tri.seq ?_
                              refine Tri.reg (l := [0]) rfl ?_
                              refine F.q rfl rfl rfl (wanted_none rfl) (r_assign rfl) ?_
                              refine F.nil ?_
                              refine Nrm.seq ?_
                              refine Tri.ret ?_
                              cases h
                              exact Rtn.body (.tmp rfl .nil) (fun w hw => ⟨rfl, hw.ext⟩)
                      · obtain ⟨t120, h120, hE_3⟩ := bind_some hE_3
                        rcases Bool.eq_false_or_eq_true (!t120) with g122 | g122
                        · replace hE_3 := if_tt g122 hE_3
                          refine Tri.reg (l := [0, 1, 2, 3, 4, 5, 6, 7, 8, 9, 10, 11, 12, 13]) rfl ?_
                          refine F.q rfl rfl rfl (wanted_none rfl) (r_loadA ta33 ti33 rfl rfl (fun w hw => (box_cells (i := 0) rfl w hw))) ?_
                          refine F.q rfl rfl rfl (wanted_none rfl) (r_loadA ta33 ti33 rfl rfl (fun w hw => (box_cells (i := 12) rfl w hw))) ?_
                          refine F.qc rfl rfl rfl (wanted_none rfl) (q_callF (xs := _) rfl ok10 rfl rfl (fun w hw => laws_eqVisit.ok h120 w ((rd_sl (i := 1) rfl) w hw) ((rd_sl (i := 2) rfl) w hw) ((rd_sl (i := 3) rfl) w hw) ((rd_sl (i := 14) rfl) w hw) ((rd_sl (i := 15) rfl) w hw) ((rd_sl (i := 16) rfl) w hw))) ?_
                          refine F.q rfl rfl rfl (wanted_none rfl) (r_not rfl) ?_
                          refine F.q rfl rfl rfl (wanted_none rfl) (r_move rfl) ?_
                          refine F.sk rfl rfl rfl (wf rfl rfl rfl g122) ?_
                          refine F.sk rfl rfl rfl (wf rfl rfl rfl g122) ?_
                          refine F.sk rfl rfl rfl (wf rfl rfl rfl g122) ?_
                          refine F.q rfl rfl rfl (wanted_none rfl) (r_pick rfl rfl g122) ?_
                          refine F.q rfl rfl rfl (wanted_none rfl) (r_move rfl) ?_
                          refine F.sk rfl rfl rfl (wf rfl rfl rfl rfl) ?_
                          refine F.sk rfl rfl rfl (wf rfl rfl rfl rfl) ?_
                          refine F.sk rfl rfl rfl (wf rfl rfl rfl rfl) ?_
                          refine F.q rfl rfl rfl (wanted_none rfl) (r_pick rfl rfl rfl) ?_
                          refine F.nil ?_
                          cases hE_3
                          refine Nrm.only [11, 15, 131] rfl ?_
                          refine Nrm.pick [11, 8, 9, 10] rfl rfl ?_
                          exact hj_3 _ _ ⟨rfl, rfl⟩
                        · replace hE_3 := if_ff g122 hE_3
                          rcases Bool.eq_false_or_eq_true (t114_6 != t35_6) with g127 | g127
                          · replace hE_3 := if_tt g127 hE_3
                            refine Tri.reg (l := [0, 1, 2, 3, 4, 5, 6, 7, 8, 9, 10, 11, 12, 13]) rfl ?_
                            refine F.q rfl rfl rfl (wanted_none rfl) (r_loadA ta33 ti33 rfl rfl (fun w hw => (box_cells (i := 0) rfl w hw))) ?_
                            refine F.q rfl rfl rfl (wanted_none rfl) (r_loadA ta33 ti33 rfl rfl (fun w hw => (box_cells (i := 12) rfl w hw))) ?_
                            refine F.qc rfl rfl rfl (wanted_none rfl) (q_callF (xs := _) rfl ok10 rfl rfl (fun w hw => laws_eqVisit.ok h120 w ((rd_sl (i := 1) rfl) w hw) ((rd_sl (i := 2) rfl) w hw) ((rd_sl (i := 3) rfl) w hw) ((rd_sl (i := 14) rfl) w hw) ((rd_sl (i := 15) rfl) w hw) ((rd_sl (i := 16) rfl) w hw))) ?_
                            refine F.q rfl rfl rfl (wanted_none rfl) (r_not rfl) ?_
                            refine F.q rfl rfl rfl (wanted_none rfl) (r_move rfl) ?_
                            refine F.q rfl rfl rfl (wg rfl rfl rfl g122) (r_move rfl) ?_
                            refine F.q rfl rfl rfl (wg rfl rfl rfl g122) (r_move rfl) ?_
                            refine F.q rfl rfl rfl (wg rfl rfl rfl g122) (r_neq rfl rfl) ?_
                            refine F.q rfl rfl rfl (wanted_none rfl) (r_pickf rfl rfl g122) ?_
                            refine F.q rfl rfl rfl (wanted_none rfl) (r_move rfl) ?_
                            refine F.sk rfl rfl rfl (wf rfl rfl rfl g127) ?_
                            refine F.sk rfl rfl rfl (wf rfl rfl rfl g127) ?_
                            refine F.sk rfl rfl rfl (wf rfl rfl rfl g127) ?_
                            refine F.q rfl rfl rfl (wanted_none rfl) (r_pick rfl rfl g127) ?_
                            refine F.nil ?_
                            cases hE_3
                            refine Nrm.only [11, 15, 131] rfl ?_
                            refine Nrm.pick [11, 8, 9, 10] rfl rfl ?_
                            exact hj_3 _ _ ⟨rfl, rfl⟩
                          · replace hE_3 := if_ff g127 hE_3
                            refine Tri.reg (l := [0, 1, 2, 3, 4, 5, 6, 7, 8, 9, 10, 11, 12, 13]) rfl ?_
                            refine F.q rfl rfl rfl (wanted_none rfl) (r_loadA ta33 ti33 rfl rfl (fun w hw => (box_cells (i := 0) rfl w hw))) ?_
                            refine F.q rfl rfl rfl (wanted_none rfl) (r_loadA ta33 ti33 rfl rfl (fun w hw => (box_cells (i := 12) rfl w hw))) ?_
                            refine F.qc rfl rfl rfl (wanted_none rfl) (q_callF (xs := _) rfl ok10 rfl rfl (fun w hw => laws_eqVisit.ok h120 w ((rd_sl (i := 1) rfl) w hw) ((rd_sl (i := 2) rfl) w hw) ((rd_sl (i := 3) rfl) w hw) ((rd_sl (i := 14) rfl) w hw) ((rd_sl (i := 15) rfl) w hw) ((rd_sl (i := 16) rfl) w hw))) ?_
                            refine F.q rfl rfl rfl (wanted_none rfl) (r_not rfl) ?_
                            refine F.q rfl rfl rfl (wanted_none rfl) (r_move rfl) ?_
                            refine F.q rfl rfl rfl (wg rfl rfl rfl g122) (r_move rfl) ?_
                            refine F.q rfl rfl rfl (wg rfl rfl rfl g122) (r_move rfl) ?_
                            refine F.q rfl rfl rfl (wg rfl rfl rfl g122) (r_neq rfl rfl) ?_
                            refine F.q rfl rfl rfl (wanted_none rfl) (r_pickf rfl rfl g122) ?_
                            refine F.q rfl rfl rfl (wanted_none rfl) (r_move rfl) ?_
                            refine F.q rfl rfl rfl (wg rfl rfl rfl g127) (r_move rfl) ?_
                            refine F.q rfl rfl rfl (wg rfl rfl rfl g127) (r_move rfl) ?_
                            refine F.q rfl rfl rfl (wg rfl rfl rfl g127) (r_neqB Tryz.underlying4 rfl rfl) ?_
                            refine F.q rfl rfl rfl (wanted_none rfl) (r_pickf rfl rfl g127) ?_
                            refine F.nil ?_
                            cases hE_3
                            refine Nrm.only [11, 15, 131] rfl ?_
                            refine Nrm.pick [11, 8, 9, 10] rfl rfl ?_
                            exact hj_3 _ _ ⟨rfl, rfl⟩
              · rcases Bool.eq_false_or_eq_true (decide (t79_1 < 0)) with g82 | g82
                · replace hE_2 := if_tt g82 hE_2
                  refine Tri.reg (l := [0, 1, 2, 3, 4, 5, 6, 7, 8, 9, 10, 11, 12, 13, 14, 15, 16, 17]) rfl ?_
                  refine F.q rfl rfl rfl (wanted_none rfl) (r_move rfl) ?_
                  refine F.q rfl rfl rfl (wanted_none rfl) (r_lss rfl rfl) ?_
                  refine F.q rfl rfl rfl (wanted_none rfl) (r_move rfl) ?_
                  refine F.sk rfl rfl rfl (wf rfl rfl rfl g82) ?_
                  refine F.sk rfl rfl rfl (wf rfl rfl rfl g82) ?_
                  refine F.sk rfl rfl rfl (wf rfl rfl rfl g82) ?_
                  refine F.sk rfl rfl rfl (wf rfl rfl rfl g82) ?_
                  refine F.q rfl rfl rfl (wanted_none rfl) (r_pick rfl rfl g82) ?_
                  refine F.q rfl rfl rfl (wanted_none rfl) (r_move rfl) ?_
                  refine F.sk rfl rfl rfl (wf rfl rfl rfl rfl) ?_
                  refine F.sk rfl rfl rfl (wf rfl rfl rfl rfl) ?_
                  refine F.sk rfl rfl rfl (wf rfl rfl rfl rfl) ?_
                  refine F.q rfl rfl rfl (wanted_none rfl) (r_pick rfl rfl rfl) ?_
                  refine F.q rfl rfl rfl (wanted_none rfl) (r_move rfl) ?_
                  refine F.sk rfl rfl rfl (wf rfl rfl rfl rfl) ?_
                  refine F.sk rfl rfl rfl (wf rfl rfl rfl rfl) ?_
                  refine F.sk rfl rfl rfl (wf rfl rfl rfl rfl) ?_
                  refine F.q rfl rfl rfl (wanted_none rfl) (r_pick rfl rfl rfl) ?_
                  refine F.nil ?_
                  cases hE_2
                  refine Nrm.only [1, 2, 6, 7, 8, 11, 97] rfl ?_
                  refine Nrm.pick [8, 10, 11, 12, 13, 14, 15, 16, 17] rfl rfl ?_
                  exact hj_2 _ _ ⟨rfl, rfl⟩
                · replace hE_2 := if_ff g82 hE_2
                  obtain ⟨t85, h85, hE_2⟩ := bind_some hE_2
                  rcases Bool.eq_false_or_eq_true (!t85) with g88 | g88
                  · replace hE_2 := if_tt g88 hE_2
                    refine Tri.reg (l := [0, 1, 2, 3, 4, 5, 6, 7, 8, 9, 10, 11, 12, 13, 14, 15, 16, 17]) rfl ?_
                    refine F.q rfl rfl rfl (wanted_none rfl) (r_move rfl) ?_
                    refine F.q rfl rfl rfl (wanted_none rfl) (r_lss rfl rfl) ?_
                    refine F.q rfl rfl rfl (wanted_none rfl) (r_move rfl) ?_
                    refine F.q rfl rfl rfl (wg rfl rfl rfl g82) (r_loadA ta33 ti33 rfl rfl (fun w hw => (box_cells (i := 8) rfl w hw))) ?_
                    refine F.q rfl rfl rfl (wg rfl rfl rfl g82) (r_loadA ta33 ti33 rfl rfl (fun w hw => (box_cells (i := 10) rfl w hw))) ?_
                    refine F.qc rfl rfl rfl (wg rfl rfl rfl g82) (q_callF (xs := _) rfl ok10 rfl rfl (fun w hw => laws_eqVisit.ok h85 w ((rd_sl (i := 15) rfl) w hw) ((rd_sl (i := 16) rfl) w hw) ((rd_sl (i := 17) rfl) w hw) ((rd_sl (i := 12) rfl) w hw) ((rd_sl (i := 13) rfl) w hw) ((rd_sl (i := 14) rfl) w hw))) ?_
                    refine F.q rfl rfl rfl (wg rfl rfl rfl g82) (r_not rfl) ?_
                    refine F.q rfl rfl rfl (wanted_none rfl) (r_pickf rfl rfl g82) ?_
                    refine F.q rfl rfl rfl (wanted_none rfl) (r_move rfl) ?_
                    refine F.sk rfl rfl rfl (wf rfl rfl rfl g88) ?_
                    refine F.sk rfl rfl rfl (wf rfl rfl rfl g88) ?_
                    refine F.sk rfl rfl rfl (wf rfl rfl rfl g88) ?_
                    refine F.q rfl rfl rfl (wanted_none rfl) (r_pick rfl rfl g88) ?_
                    refine F.q rfl rfl rfl (wanted_none rfl) (r_move rfl) ?_
                    refine F.sk rfl rfl rfl (wf rfl rfl rfl rfl) ?_
                    refine F.sk rfl rfl rfl (wf rfl rfl rfl rfl) ?_
                    refine F.sk rfl rfl rfl (wf rfl rfl rfl rfl) ?_
                    refine F.q rfl rfl rfl (wanted_none rfl) (r_pick rfl rfl rfl) ?_
                    refine F.nil ?_
                    cases hE_2
                    refine Nrm.only [1, 2, 6, 7, 8, 11, 97] rfl ?_
                    refine Nrm.pick [8, 10, 11, 12, 13, 14, 15, 16, 17] rfl rfl ?_
                    exact hj_2 _ _ ⟨rfl, rfl⟩
                  · replace hE_2 := if_ff g88 hE_2
                    rcases Bool.eq_false_or_eq_true (t46_6 != t35_6) with g93 | g93
                    · replace hE_2 := if_tt g93 hE_2
                      refine Tri.reg (l := [0, 1, 2, 3, 4, 5, 6, 7, 8, 9, 10, 11, 12, 13, 14, 15, 16, 17]) rfl ?_
                      refine F.q rfl rfl rfl (wanted_none rfl) (r_move rfl) ?_
                      refine F.q rfl rfl rfl (wanted_none rfl) (r_lss rfl rfl) ?_
                      refine F.q rfl rfl rfl (wanted_none rfl) (r_move rfl) ?_
                      refine F.q rfl rfl rfl (wg rfl rfl rfl g82) (r_loadA ta33 ti33 rfl rfl (fun w hw => (box_cells (i := 8) rfl w hw))) ?_
                      refine F.q rfl rfl rfl (wg rfl rfl rfl g82) (r_loadA ta33 ti33 rfl rfl (fun w hw => (box_cells (i := 10) rfl w hw))) ?_
                      refine F.qc rfl rfl rfl (wg rfl rfl rfl g82) (q_callF (xs := _) rfl ok10 rfl rfl (fun w hw => laws_eqVisit.ok h85 w ((rd_sl (i := 15) rfl) w hw) ((rd_sl (i := 16) rfl) w hw) ((rd_sl (i := 17) rfl) w hw) ((rd_sl (i := 12) rfl) w hw) ((rd_sl (i := 13) rfl) w hw) ((rd_sl (i := 14) rfl) w hw))) ?_
                      refine F.q rfl rfl rfl (wg rfl rfl rfl g82) (r_not rfl) ?_
                      refine F.q rfl rfl rfl (wanted_none rfl) (r_pickf rfl rfl g82) ?_
                      refine F.q rfl rfl rfl (wanted_none rfl) (r_move rfl) ?_
                      refine F.q rfl rfl rfl (wg rfl rfl rfl g88) (r_move rfl) ?_
                      refine F.q rfl rfl rfl (wg rfl rfl rfl g88) (r_move rfl) ?_
                      refine F.q rfl rfl rfl (wg rfl rfl rfl g88) (r_neq rfl rfl) ?_
                      refine F.q rfl rfl rfl (wanted_none rfl) (r_pickf rfl rfl g88) ?_
                      refine F.q rfl rfl rfl (wanted_none rfl) (r_move rfl) ?_
                      refine F.sk rfl rfl rfl (wf rfl rfl rfl g93) ?_
                      refine F.sk rfl rfl rfl (wf rfl rfl rfl g93) ?_
                      refine F.sk rfl rfl rfl (wf rfl rfl rfl g93) ?_
                      refine F.q rfl rfl rfl (wanted_none rfl) (r_pick rfl rfl g93) ?_
                      refine F.nil ?_
                      cases hE_2
                      refine Nrm.only [1, 2, 6, 7, 8, 11, 97] rfl ?_
                      refine Nrm.pick [8, 10, 11, 12, 13, 14, 15, 16, 17] rfl rfl ?_
                      exact hj_2 _ _ ⟨rfl, rfl⟩
                    · replace hE_2 := if_ff g93 hE_2
                      refine Tri.reg (l := [0, 1, 2, 3, 4, 5, 6, 7, 8, 9, 10, 11, 12, 13, 14, 15, 16, 17]) rfl ?_
                      refine F.q rfl rfl rfl (wanted_none rfl) (r_move rfl) ?_
                      refine F.q rfl rfl rfl (wanted_none rfl) (r_lss rfl rfl) ?_
                      refine F.q rfl rfl rfl (wanted_none rfl) (r_move rfl) ?_
                      refine F.q rfl rfl rfl (wg rfl rfl rfl g82) (r_loadA ta33 ti33 rfl rfl (fun w hw => (box_cells (i := 8) rfl w hw))) ?_
                      refine F.q rfl rfl rfl (wg rfl rfl rfl g82) (r_loadA ta33 ti33 rfl rfl (fun w hw => (box_cells (i := 10) rfl w hw))) ?_
                      refine F.qc rfl rfl rfl (wg rfl rfl rfl g82) (q_callF (xs := _) rfl ok10 rfl rfl (fun w hw => laws_eqVisit.ok h85 w ((rd_sl (i := 15) rfl) w hw) ((rd_sl (i := 16) rfl) w hw) ((rd_sl (i := 17) rfl) w hw) ((rd_sl (i := 12) rfl) w hw) ((rd_sl (i := 13) rfl) w hw) ((rd_sl (i := 14) rfl) w hw))) ?_
                      refine F.q rfl rfl rfl (wg rfl rfl rfl g82) (r_not rfl) ?_
                      refine F.q rfl rfl rfl (wanted_none rfl) (r_pickf rfl rfl g82) ?_
                      refine F.q rfl rfl rfl (wanted_none rfl) (r_move rfl) ?_
                      refine F.q rfl rfl rfl (wg rfl rfl rfl g88) (r_move rfl) ?_
                      refine F.q rfl rfl rfl (wg rfl rfl rfl g88) (r_move rfl) ?_
                      refine F.q rfl rfl rfl (wg rfl rfl rfl g88) (r_neq rfl rfl) ?_
                      refine F.q rfl rfl rfl (wanted_none rfl) (r_pickf rfl rfl g88) ?_
                      refine F.q rfl rfl rfl (wanted_none rfl) (r_move rfl) ?_
                      refine F.q rfl rfl rfl (wg rfl rfl rfl g93) (r_move rfl) ?_
                      refine F.q rfl rfl rfl (wg rfl rfl rfl g93) (r_move rfl) ?_
                      refine F.q rfl rfl rfl (wg rfl rfl rfl g93) (r_neqB Tryz.underlying4 rfl rfl) ?_
                      refine F.q rfl rfl rfl (wanted_none rfl) (r_pickf rfl rfl g93) ?_
                      refine F.nil ?_
                      cases hE_2
                      refine Nrm.only [1, 2, 6, 7, 8, 11, 97] rfl ?_
                      refine Nrm.pick [8, 10, 11, 12, 13, 14, 15, 16, 17] rfl rfl ?_
                      exact hj_2 _ _ ⟨rfl, rfl⟩
      · obtain ⟨t52, h52, hE_1⟩ := bind_some hE_1
        rcases Bool.eq_false_or_eq_true (!t52) with g54 | g54
        · replace hE_1 := if_tt g54 hE_1
          refine Tri.reg (l := [0, 1, 2, 3, 4, 5, 6, 7, 8, 9, 10, 11, 12, 13]) rfl ?_
          refine F.q rfl rfl rfl (wanted_none rfl) (r_loadA ta33 ti33 rfl rfl (fun w hw => (box_cells (i := 0) rfl w hw))) ?_
          refine F.q rfl rfl rfl (wanted_none rfl) (r_loadA ta33 ti33 rfl rfl (fun w hw => (box_cells (i := 9) rfl w hw))) ?_
          refine F.qc rfl rfl rfl (wanted_none rfl) (q_callF (xs := _) rfl ok10 rfl rfl (fun w hw => laws_eqVisit.ok h52 w ((rd_sl (i := 1) rfl) w hw) ((rd_sl (i := 2) rfl) w hw) ((rd_sl (i := 3) rfl) w hw) ((rd_sl (i := 10) rfl) w hw) ((rd_sl (i := 11) rfl) w hw) ((rd_sl (i := 12) rfl) w hw))) ?_
          refine F.q rfl rfl rfl (wanted_none rfl) (r_not rfl) ?_
          refine F.q rfl rfl rfl (wanted_none rfl) (r_move rfl) ?_
          refine F.sk rfl rfl rfl (wf rfl rfl rfl g54) ?_
          refine F.sk rfl rfl rfl (wf rfl rfl rfl g54) ?_
          refine F.sk rfl rfl rfl (wf rfl rfl rfl g54) ?_
          refine F.q rfl rfl rfl (wanted_none rfl) (r_pick rfl rfl g54) ?_
          refine F.q rfl rfl rfl (wanted_none rfl) (r_move rfl) ?_
          refine F.sk rfl rfl rfl (wf rfl rfl rfl rfl) ?_
          refine F.sk rfl rfl rfl (wf rfl rfl rfl rfl) ?_
          refine F.sk rfl rfl rfl (wf rfl rfl rfl rfl) ?_
          refine F.q rfl rfl rfl (wanted_none rfl) (r_pick rfl rfl rfl) ?_
          refine F.nil ?_
          cases hE_1
          refine Nrm.only [1, 2, 6, 7, 8, 9, 10, 11, 12, 13, 63] rfl ?_
          refine Nrm.pick [0, 5, 9, 17, 10, 11, 12, 6, 7, 8, 4, 1, 2, 3] rfl rfl ?_
          exact hj_1 _ _ ⟨rfl, rfl⟩
        · replace hE_1 := if_ff g54 hE_1
          rcases Bool.eq_false_or_eq_true (t46_6 != t35_6) with g59 | g59
          · replace hE_1 := if_tt g59 hE_1
            refine Tri.reg (l := [0, 1, 2, 3, 4, 5, 6, 7, 8, 9, 10, 11, 12, 13]) rfl ?_
            refine F.q rfl rfl rfl (wanted_none rfl) (r_loadA ta33 ti33 rfl rfl (fun w hw => (box_cells (i := 0) rfl w hw))) ?_
            refine F.q rfl rfl rfl (wanted_none rfl) (r_loadA ta33 ti33 rfl rfl (fun w hw => (box_cells (i := 9) rfl w hw))) ?_
            refine F.qc rfl rfl rfl (wanted_none rfl) (q_callF (xs := _) rfl ok10 rfl rfl (fun w hw => laws_eqVisit.ok h52 w ((rd_sl (i := 1) rfl) w hw) ((rd_sl (i := 2) rfl) w hw) ((rd_sl (i := 3) rfl) w hw) ((rd_sl (i := 10) rfl) w hw) ((rd_sl (i := 11) rfl) w hw) ((rd_sl (i := 12) rfl) w hw))) ?_
            refine F.q rfl rfl rfl (wanted_none rfl) (r_not rfl) ?_
            refine F.q rfl rfl rfl (wanted_none rfl) (r_move rfl) ?_
            refine F.q rfl rfl rfl (wg rfl rfl rfl g54) (r_move rfl) ?_
            refine F.q rfl rfl rfl (wg rfl rfl rfl g54) (r_move rfl) ?_
            refine F.q rfl rfl rfl (wg rfl rfl rfl g54) (r_neq rfl rfl) ?_
            refine F.q rfl rfl rfl (wanted_none rfl) (r_pickf rfl rfl g54) ?_
            refine F.q rfl rfl rfl (wanted_none rfl) (r_move rfl) ?_
            refine F.sk rfl rfl rfl (wf rfl rfl rfl g59) ?_
            refine F.sk rfl rfl rfl (wf rfl rfl rfl g59) ?_
            refine F.sk rfl rfl rfl (wf rfl rfl rfl g59) ?_
            refine F.q rfl rfl rfl (wanted_none rfl) (r_pick rfl rfl g59) ?_
            refine F.nil ?_
            cases hE_1
            refine Nrm.only [1, 2, 6, 7, 8, 9, 10, 11, 12, 13, 63] rfl ?_
            refine Nrm.pick [0, 5, 9, 17, 10, 11, 12, 6, 7, 8, 4, 1, 2, 3] rfl rfl ?_
            exact hj_1 _ _ ⟨rfl, rfl⟩
          · replace hE_1 := if_ff g59 hE_1
            refine Tri.reg (l := [0, 1, 2, 3, 4, 5, 6, 7, 8, 9, 10, 11, 12, 13]) rfl ?_
            refine F.q rfl rfl rfl (wanted_none rfl) (r_loadA ta33 ti33 rfl rfl (fun w hw => (box_cells (i := 0) rfl w hw))) ?_
            refine F.q rfl rfl rfl (wanted_none rfl) (r_loadA ta33 ti33 rfl rfl (fun w hw => (box_cells (i := 9) rfl w hw))) ?_
            refine F.qc rfl rfl rfl (wanted_none rfl) (q_callF (xs := _) rfl ok10 rfl rfl (fun w hw => laws_eqVisit.ok h52 w ((rd_sl (i := 1) rfl) w hw) ((rd_sl (i := 2) rfl) w hw) ((rd_sl (i := 3) rfl) w hw) ((rd_sl (i := 10) rfl) w hw) ((rd_sl (i := 11) rfl) w hw) ((rd_sl (i := 12) rfl) w hw))) ?_
            refine F.q rfl rfl rfl (wanted_none rfl) (r_not rfl) ?_
            refine F.q rfl rfl rfl (wanted_none rfl) (r_move rfl) ?_
            refine F.q rfl rfl rfl (wg rfl rfl rfl g54) (r_move rfl) ?_
            refine F.q rfl rfl rfl (wg rfl rfl rfl g54) (r_move rfl) ?_
            refine F.q rfl rfl rfl (wg rfl rfl rfl g54) (r_neq rfl rfl) ?_
            refine F.q rfl rfl rfl (wanted_none rfl) (r_pickf rfl rfl g54) ?_
            refine F.q rfl rfl rfl (wanted_none rfl) (r_move rfl) ?_
            refine F.q rfl rfl rfl (wg rfl rfl rfl g59) (r_move rfl) ?_
            refine F.q rfl rfl rfl (wg rfl rfl rfl g59) (r_move rfl) ?_
            refine F.q rfl rfl rfl (wg rfl rfl rfl g59) (r_neqB Tryz.underlying4 rfl rfl) ?_
            refine F.q rfl rfl rfl (wanted_none rfl) (r_pickf rfl rfl g59) ?_
            refine F.nil ?_
            cases hE_1
            refine Nrm.only [1, 2, 6, 7, 8, 9, 10, 11, 12, 13, 63] rfl ?_
            refine Nrm.pick [0, 5, 9, 17, 10, 11, 12, 6, 7, 8, 4, 1, 2, 3] rfl rfl ?_
            exact hj_1 _ _ ⟨rfl, rfl⟩

end Go.Proofs
