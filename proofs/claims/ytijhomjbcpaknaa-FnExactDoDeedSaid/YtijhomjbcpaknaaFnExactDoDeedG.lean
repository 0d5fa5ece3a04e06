/- A part of the proof of FnExactDoDeed: what the functions of the program compute, walked on the model. No condition. -/
import Derived.Test.YtijhomjbcpaknaaFnExactDoDeedC
import Derived.Test.YtijhomjbcpaknaaFnExactDoDeedD
import Derived.Test.YtijhomjbcpaknaaFnExactDoDeedF
set_option linter.unusedSimpArgs false
/- loop.example/g01158/laws.FnExactDoDeed -/
namespace Go.Proofs
open Go Go.Ga
set_option linter.unusedVariables false
set_option maxRecDepth 100000
set_option maxHeartbeats 4000000
noncomputable def laws_FnExactDoDeed.f (k : Nat) (a0_0 : Int) (a0_1 : List (Int × Int × Int)) (a0_2 : List Int) (a0_3 : List Int) (a0_4 : Int) (a1_0 : Int) (a1_1 : Int) (a1_2 : Int) (a1_3 : Int) : Option (Bool) := (laws_szVisit.f k a0_0 a0_1 a0_2 a0_3 a0_4 1048576).bind fun t18 => (if (decide (t18 < 0)) = true then some true else ((laws_toVisit.f k a0_0 a0_1 a0_2 a0_3 a0_4).bind fun (t23_1, t23_2, t23_3, t23_4, t23_5) => (laws_toDeed.f k a1_0 a1_1 a1_2 a1_3).bind fun (t25_1, t25_2, t25_3, t25_4) => (spec_DoDeed.f k t23_1 t23_2 t23_3 t23_4 t23_5 t25_1 t25_2 t25_3 t25_4).bind fun (t26_1, t26_2, t26_3, t26_4, t26_5, t26_6) => some (t26_6, t26_1, t26_2, t26_3, t26_4, t26_5)).bind fun (y7, yb6_2_0, yb6_2_1, yb6_2_2, yb6_2_3, yb6_2_4) => (laws_toVisit.f k a0_0 a0_1 a0_2 a0_3 a0_4).bind fun (t30_1, t30_2, t30_3, t30_4, t30_5) => ((laws_toDeed.f k a1_0 a1_1 a1_2 a1_3).bind fun (t34_1, t34_2, t34_3, t34_4) => (impl_DoDeed.f k t30_1 t30_2 t30_3 t30_4 t30_5 t34_1 t34_2 t34_3 t34_4).bind fun (t35_1, t35_2, t35_3, t35_4, t35_5, t35_6) => some (t35_6, t35_1, t35_2, t35_3, t35_4, t35_5)).bind fun (y10, yb9_2_0, yb9_2_1, yb9_2_2, yb9_2_3, yb9_2_4) => ((laws_eqVisit.f k yb9_2_0 yb9_2_1 yb9_2_2 yb9_2_3 yb9_2_4 yb6_2_0 yb6_2_1 yb6_2_2 yb6_2_3 yb6_2_4).bind fun t40 => (if (!t40) = true then some true else some (y10 != y7))).bind fun y46 => (if y46 = true then some false else (laws_toVisit.f k a0_0 a0_1 a0_2 a0_3 a0_4).bind fun (t49_1, t49_2, t49_3, t49_4, t49_5) => (laws_eqVisit.f k t30_1 t30_2 t30_3 t30_4 t30_5 t49_1 t49_2 t49_3 t49_4 t49_5).bind fun t50 => (if (!t50) = true then some false else (laws_markVisit.f k t30_1 t30_2 t30_3 t30_4 t30_5 1).bind fun (t54_1, t54_2, t54_3, t54_4) => ((if (decide (t54_1 < 0)) = true then some true else (laws_eqVisit.f k yb9_2_0 yb9_2_1 yb9_2_2 yb9_2_3 yb9_2_4 yb6_2_0 yb6_2_1 yb6_2_2 yb6_2_3 yb6_2_4).bind fun t60 => (if (!t60) = true then some true else some (y10 != y7)))).bind fun y67 => (if y67 = true then some false else (laws_markVisit.f k yb9_2_0 yb9_2_1 yb9_2_2 yb9_2_3 yb9_2_4 1).bind fun (t70_1, t70_2, t70_3, t70_4) => (laws_heldVisit.f k yb9_2_0 t70_2 t70_3 t70_4 yb9_2_4 1).bind fun t73 => (if (decide (t73 < 0)) = true then some false else (if (t73 != t70_1) = true then some false else ((laws_toVisit.f k a0_0 a0_1 a0_2 a0_3 a0_4).bind fun (t81_1, t81_2, t81_3, t81_4, t81_5) => (laws_toDeed.f k a1_0 a1_1 a1_2 a1_3).bind fun (t83_1, t83_2, t83_3, t83_4) => (impl_DoDeed.f k t81_1 t81_2 t81_3 t81_4 t81_5 t83_1 t83_2 t83_3 t83_4).bind fun (t84_1, t84_2, t84_3, t84_4, t84_5, t84_6) => some (t84_6, t84_1, t84_2, t84_3, t84_4, t84_5)).bind fun (y15, yb14_2_0, yb14_2_1, yb14_2_2, yb14_2_3, yb14_2_4) => ((laws_eqVisit.f k yb14_2_0 yb14_2_1 yb14_2_2 yb14_2_3 yb14_2_4 yb6_2_0 yb6_2_1 yb6_2_2 yb6_2_3 yb6_2_4).bind fun t89 => (if (!t89) = true then some true else some (y15 != y7))).bind fun y95 => (if y95 = true then some false else (laws_heldVisit.f k yb9_2_0 t70_2 t70_3 t70_4 yb9_2_4 1).bind fun t98 => (if (decide (t98 < 0)) = true then some false else (if (t98 != t70_1) = true then some false else some true)))))))))

theorem laws_FnExactDoDeed.ok {k : Nat}  {a0_0 : Int} {a0_1 : List (Int × Int × Int)} {a0_2 : List Int} {a0_3 : List Int} {a0_4 : Int} {a1_0 : Int} {a1_1 : Int} {a1_2 : Int} {a1_3 : Int} {r0 : Bool} (h : laws_FnExactDoDeed.f k a0_0 a0_1 a0_2 a0_3 a0_4 a1_0 a1_1 a1_2 a1_3 = some r0) (w : World) {va0_1 : Value} {va0_2 : Value} {va0_3 : Value} (hr_a0_1 : Rd w va0_1 a0_1) (hr_a0_2 : Rd w va0_2 a0_2) (hr_a0_3 : Rd w va0_3 a0_3) :
    Calls Try.prog 11 ([.agg ([.int .i64 a0_0, va0_1, va0_2, va0_3, .int .i64 a0_4].toArray), .agg ([.int .i64 a1_0, .int .i64 a1_1, .int .i64 a1_2, .int .i64 a1_3].toArray)] : List Value).toArray w (fun e w' => e = .returned (.bool r0) ∧ Ext w w') := by
  unfold laws_FnExactDoDeed.f at h
  have hl_va0_1 := hr_a0_1.len
  have hl_va0_2 := hr_a0_2.len
  have hl_va0_3 := hr_a0_3.len
  refine Calls.of_tri (N := 104) Try.func11 rfl rfl rfl (Sep.nil (M := noM)) ?_
  refine Tri.seq ?_
  refine Tri.reg (l := [0, 1, 2]) rfl ?_
  refine F.m rfl rfl rfl (wanted_none rfl) (m_boxG rfl rfl) ?_
  rintro _ _ ⟨b2_1, rfl, rfl⟩
  refine F.m rfl rfl rfl (wanted_none rfl) (m_boxG rfl rfl) ?_
  rintro _ _ ⟨b3_1, rfl, rfl⟩
  refine F.q rfl rfl rfl (wanted_none rfl) (r_assign rfl) ?_
  refine F.nil ?_
  refine Nrm.seq ?_
  refine Tri.seq ?_
  refine Tri.reg (l := [0]) rfl ?_
  refine F.q rfl rfl rfl (wanted_none rfl) (r_assign rfl) ?_
  refine F.nil ?_
  refine Nrm.seq ?_
  refine Tri.seq ?_
  obtain ⟨t18, h18, h⟩ := bind_some h
  refine Tri.reg (l := [0, 1, 2, 3]) rfl ?_
  refine F.q rfl rfl rfl (wanted_none rfl) (r_loadA ta62 ti62 rfl rfl (fun w hw => (box_cells (i := 1) rfl w hw))) ?_
  refine F.q rfl rfl rfl (wanted_none rfl) (r_move rfl) ?_
  refine F.qc rfl rfl rfl (wanted_none rfl) (q_callF (xs := _) rfl ok43 rfl rfl (fun w hw => laws_szVisit.ok h18 w ((fun _ hw => hr_a0_1.sep hw) w hw) ((fun _ hw => hr_a0_2.sep hw) w hw) ((fun _ hw => hr_a0_3.sep hw) w hw))) ?_
  refine F.q rfl rfl rfl (wanted_none rfl) (r_assign rfl) ?_
  refine F.nil ?_
  refine Nrm.seq ?_
  refine Tri.seq ?_
  refine Tri.seq ?_
  refine Tri.reg (l := [0, 1]) rfl ?_
  refine F.q rfl rfl rfl (wanted_none rfl) (r_move rfl) ?_
  refine F.q rfl rfl rfl (wanted_none rfl) (r_lss rfl rfl) ?_
  refine F.nil ?_
  refine Nrm.seq ?_
  refine Tri.cond (b := decide (t18 < 0)) rfl (fun g_1 => ?_) (fun g_1 => ?_)
  · replace h := if_tt g_1 h
    refine Tri.seq ?_
    refine Tri.reg (l := [0]) rfl ?_
    refine F.q rfl rfl rfl (wanted_none rfl) (r_assign rfl) ?_
    refine F.nil ?_
    refine Nrm.seq ?_
    refine Tri.ret ?_
    refine Rtn.then ?_
    cases h
    exact Rtn.body (.tmp rfl .nil) (fun w hw => ⟨rfl, hw.ext⟩)
  · replace h := if_ff g_1 h
    refine Tri.skip ?_
    refine Nrm.seq ?_
    refine Tri.seq ?_
    obtain ⟨⟨y7, yb6_2_0, yb6_2_1, yb6_2_2, yb6_2_3, yb6_2_4⟩, hE_1, h⟩ := bind_some h
    refine Tri.cut (fun e' C' => ∃ (vb6_2_1_1 : Value) (Sb6_2_1_1 : Nat → Prop) (vb6_2_2_1 : Value) (Sb6_2_2_1 : Nat → Prop) (vb6_2_3_1 : Value) (Sb6_2_3_1 : Nat → Prop) (b6_2 : Nat), SlLen vb6_2_1_1 (yb6_2_1).length ∧ SlLen vb6_2_2_1 (yb6_2_2).length ∧ SlLen vb6_2_3_1 (yb6_2_3).length ∧ e' = [(2, .pointer (some ⟨b2_1, 0, none⟩)), (3, .pointer (some ⟨b3_1, 0, none⟩)), (6, .pointer (some ⟨b6_2, 0, none⟩)), (7, .bool y7)] ∧ C' = Sep w noM [R.box b3_1 64 [.int .i64 a1_0, .int .i64 a1_1, .int .i64 a1_2, .int .i64 a1_3], R.box b2_1 62 [.int .i64 a0_0, va0_1, va0_2, va0_3, .int .i64 a0_4], R.box b6_2 67 [.int .i64 yb6_2_0, vb6_2_1_1, vb6_2_2_1, vb6_2_3_1, .int .i64 yb6_2_4], R.sl Sb6_2_1_1 vb6_2_1_1 (yb6_2_1 : List (Int × Int × Int)), R.sl Sb6_2_2_1 vb6_2_2_1 (yb6_2_2 : List (Int)), R.sl Sb6_2_3_1 vb6_2_3_1 (yb6_2_3 : List (Int))]) ?_ (fun hj_1 => ?_)
    · rintro _ _ ⟨vb6_2_1_1, Sb6_2_1_1, vb6_2_2_1, Sb6_2_2_1, vb6_2_3_1, Sb6_2_3_1, b6_2, hl_vb6_2_1_1, hl_vb6_2_2_1, hl_vb6_2_3_1, rfl, rfl⟩
      refine Nrm.seq ?_
      refine Tri.seq ?_
      obtain ⟨⟨t30_1, t30_2, t30_3, t30_4, t30_5⟩, h30, h⟩ := bind_some h
      refine Tri.reg (l := [0, 1, 2, 3]) rfl ?_
      refine F.q rfl rfl rfl (wanted_none rfl) (r_loadA ta62 ti62 rfl rfl (fun w hw => (box_cells (i := 1) rfl w hw))) ?_
      refine F.m rfl rfl rfl (wanted_none rfl) (m_callF (xs := _) rfl ok45 rfl rfl (fun w hw => laws_toVisit.ok h30 w ((fun _ hw => hr_a0_1.sep hw) w hw) ((fun _ hw => hr_a0_2.sep hw) w hw) ((fun _ hw => hr_a0_3.sep hw) w hw))) ?_
      rintro _ _ ⟨_, ⟨v30_1, S30_1, v30_2, S30_2, v30_3, S30_3, rfl, hl_v30_1, hl_v30_2, hl_v30_3, rfl⟩, rfl⟩
      refine F.m rfl rfl rfl (wanted_none rfl) (m_alloc ti67) ?_
      rintro _ _ ⟨b8_1, rfl, rfl⟩
      refine F.ef0 rfl rfl (wanted_none rfl) (d_storeG0 (i := 0) (cs2 := [.int .i64 t30_1, v30_1, v30_2, v30_3, .int .i64 t30_5]) ti67 rfl rfl rfl rfl rfl (Nat.le_of_ble_eq_true rfl) (lf_cons rfl (lf_cons (sl_leaf hl_v30_1) (lf_cons (sl_leaf hl_v30_2) (lf_cons (sl_leaf hl_v30_3) (lf_cons rfl lf_nil)))))) ?_
      rintro _ _ ⟨rfl, rfl⟩
      refine F.nil ?_
      refine Nrm.seq ?_
      refine Tri.seq ?_
      obtain ⟨⟨y10, yb9_2_0, yb9_2_1, yb9_2_2, yb9_2_3, yb9_2_4⟩, hE_2, h⟩ := bind_some h
      refine Tri.cut (fun e' C' => ∃ (vb9_2_1_1 : Value) (Sb9_2_1_1 : Nat → Prop) (vb9_2_2_1 : Value) (Sb9_2_2_1 : Nat → Prop) (vb9_2_3_1 : Value) (Sb9_2_3_1 : Nat → Prop) (b9_2 : Nat), SlLen vb9_2_1_1 (yb9_2_1).length ∧ SlLen vb9_2_2_1 (yb9_2_2).length ∧ SlLen vb9_2_3_1 (yb9_2_3).length ∧ e' = [(2, .pointer (some ⟨b2_1, 0, none⟩)), (3, .pointer (some ⟨b3_1, 0, none⟩)), (6, .pointer (some ⟨b6_2, 0, none⟩)), (7, .bool y7), (8, .pointer (some ⟨b8_1, 0, none⟩)), (9, .pointer (some ⟨b9_2, 0, none⟩)), (10, .bool y10)] ∧ C' = Sep w noM [R.box b8_1 67 [.int .i64 t30_1, v30_1, v30_2, v30_3, .int .i64 t30_5], R.box b3_1 64 [.int .i64 a1_0, .int .i64 a1_1, .int .i64 a1_2, .int .i64 a1_3], R.box b2_1 62 [.int .i64 a0_0, va0_1, va0_2, va0_3, .int .i64 a0_4], R.box b6_2 67 [.int .i64 yb6_2_0, vb6_2_1_1, vb6_2_2_1, vb6_2_3_1, .int .i64 yb6_2_4], R.box b9_2 67 [.int .i64 yb9_2_0, vb9_2_1_1, vb9_2_2_1, vb9_2_3_1, .int .i64 yb9_2_4], R.sl Sb9_2_1_1 vb9_2_1_1 (yb9_2_1 : List (Int × Int × Int)), R.sl Sb9_2_2_1 vb9_2_2_1 (yb9_2_2 : List (Int)), R.sl Sb9_2_3_1 vb9_2_3_1 (yb9_2_3 : List (Int)), R.sl S30_1 v30_1 (t30_2 : List (Int × Int × Int)), R.sl S30_2 v30_2 (t30_3 : List (Int)), R.sl S30_3 v30_3 (t30_4 : List (Int)), R.sl Sb6_2_1_1 vb6_2_1_1 (yb6_2_1 : List (Int × Int × Int)), R.sl Sb6_2_2_1 vb6_2_2_1 (yb6_2_2 : List (Int)), R.sl Sb6_2_3_1 vb6_2_3_1 (yb6_2_3 : List (Int))]) ?_ (fun hj_2 => ?_)
      · rintro _ _ ⟨vb9_2_1_1, Sb9_2_1_1, vb9_2_2_1, Sb9_2_2_1, vb9_2_3_1, Sb9_2_3_1, b9_2, hl_vb9_2_1_1, hl_vb9_2_2_1, hl_vb9_2_3_1, rfl, rfl⟩
        refine Nrm.seq ?_
        refine Tri.seq ?_
        refine Tri.seq ?_
        obtain ⟨y46, hE_3, h⟩ := bind_some h
        refine Tri.cut (fun e' C' => e' = [(2, .pointer (some ⟨b2_1, 0, none⟩)), (3, .pointer (some ⟨b3_1, 0, none⟩)), (6, .pointer (some ⟨b6_2, 0, none⟩)), (7, .bool y7), (8, .pointer (some ⟨b8_1, 0, none⟩)), (9, .pointer (some ⟨b9_2, 0, none⟩)), (10, .bool y10), (46, .bool y46)] ∧ C' = Sep w noM [R.box b8_1 67 [.int .i64 t30_1, v30_1, v30_2, v30_3, .int .i64 t30_5], R.box b3_1 64 [.int .i64 a1_0, .int .i64 a1_1, .int .i64 a1_2, .int .i64 a1_3], R.box b2_1 62 [.int .i64 a0_0, va0_1, va0_2, va0_3, .int .i64 a0_4], R.box b6_2 67 [.int .i64 yb6_2_0, vb6_2_1_1, vb6_2_2_1, vb6_2_3_1, .int .i64 yb6_2_4], R.box b9_2 67 [.int .i64 yb9_2_0, vb9_2_1_1, vb9_2_2_1, vb9_2_3_1, .int .i64 yb9_2_4], R.sl S30_1 v30_1 (t30_2 : List (Int × Int × Int)), R.sl S30_2 v30_2 (t30_3 : List (Int)), R.sl S30_3 v30_3 (t30_4 : List (Int)), R.sl Sb6_2_1_1 vb6_2_1_1 (yb6_2_1 : List (Int × Int × Int)), R.sl Sb6_2_2_1 vb6_2_2_1 (yb6_2_2 : List (Int)), R.sl Sb6_2_3_1 vb6_2_3_1 (yb6_2_3 : List (Int)), R.sl Sb9_2_1_1 vb9_2_1_1 (yb9_2_1 : List (Int × Int × Int)), R.sl Sb9_2_2_1 vb9_2_2_1 (yb9_2_2 : List (Int)), R.sl Sb9_2_3_1 vb9_2_3_1 (yb9_2_3 : List (Int))]) ?_ (fun hj_3 => ?_)
        · rintro _ _ ⟨rfl, rfl⟩
          refine Nrm.seq ?_
          refine Tri.cond (b := y46) rfl (fun g_2 => ?_) (fun g_2 => ?_)
          · replace h := if_tt g_2 h
            refine Tri.seq ?_
            refine Tri.reg (l := [0]) rfl ?_
            refine F.q rfl rfl rfl (wanted_none rfl) (r_assign rfl) ?_
            refine F.nil ?_
            refine Nrm.seq ?_
            refine Tri.ret ?_
            refine Rtn.then ?_
            cases h
            exact Rtn.body (.tmp rfl .nil) (fun w hw => ⟨rfl, hw.ext⟩)
          · replace h := if_ff g_2 h
            refine Tri.skip ?_
            refine Nrm.seq ?_
            refine Tri.seq ?_
            refine Tri.seq ?_
            obtain ⟨⟨t49_1, t49_2, t49_3, t49_4, t49_5⟩, h49, h⟩ := bind_some h
            obtain ⟨t50, h50, h⟩ := bind_some h
            refine Tri.drawA mixedT Sep.up [(0, true), (1, true), (2, false), (3, true), (4, true)] [] (by kernel_rfl) ?_
            refine S.q rfl rfl rfl (wanted_none rfl) (r_loadA ta67 ti67 rfl rfl (fun w hw => (box_cells (i := 0) rfl w hw))) ?_
            refine S.q rfl rfl rfl (wanted_none rfl) (r_loadA ta62 ti62 rfl rfl (fun w hw => (box_cells (i := 2) rfl w hw))) ?_
            refine S.m rfl rfl rfl (wanted_none rfl) (m_callF (xs := _) rfl ok45 rfl rfl (fun w hw => laws_toVisit.ok h49 w ((fun _ hw => hr_a0_1.sep hw) w hw) ((fun _ hw => hr_a0_2.sep hw) w hw) ((fun _ hw => hr_a0_3.sep hw) w hw))) ?_
            rintro _ _ ⟨_, ⟨v49_4, S49_4, v49_5, S49_5, v49_6, S49_6, rfl, hl_v49_4, hl_v49_5, hl_v49_6, rfl⟩, rfl⟩
            refine S.qc rfl rfl rfl (wanted_none rfl) (q_callF (xs := _) rfl ok48 rfl rfl (fun w hw => laws_eqVisit.ok h50 w ((rd_sl (i := 8) rfl) w hw) ((rd_sl (i := 9) rfl) w hw) ((rd_sl (i := 10) rfl) w hw) ((rd_sl (i := 0) rfl) w hw) ((rd_sl (i := 1) rfl) w hw) ((rd_sl (i := 2) rfl) w hw))) ?_
            refine S.q rfl rfl rfl (wanted_none rfl) (r_not rfl) ?_
            refine S.nil ?_
            refine F.nil ?_
            refine Nrm.seq ?_
            refine Tri.cond (b := !t50) rfl (fun g_3 => ?_) (fun g_3 => ?_)
            · replace h := if_tt g_3 h
              refine Tri.seq ?_
              refine Tri.reg (l := [0]) rfl ?_
              refine F.q rfl rfl rfl (wanted_none rfl) (r_assign rfl) ?_
              refine F.nil ?_
              refine Nrm.seq ?_
              refine Tri.ret ?_
              refine Rtn.then ?_
              cases h
              exact Rtn.body (.tmp rfl .nil) (fun w hw => ⟨rfl, hw.ext⟩)
            · replace h := if_ff g_3 h
              refine Tri.skip ?_
              refine Nrm.seq ?_
              refine Tri.seq ?_
              refine Tri.reg (l := [0]) rfl ?_
              refine F.q rfl rfl rfl (wanted_none rfl) (r_assign rfl) ?_
              refine F.nil ?_
              refine Nrm.seq ?_
              refine Tri.seq ?_
              obtain ⟨⟨t54_1, t54_2, t54_3, t54_4⟩, h54, h⟩ := bind_some h
              refine Tri.reg (l := [0, 1, 2, 3]) rfl ?_
              refine F.q rfl rfl rfl (wanted_none rfl) (r_loadA ta67 ti67 rfl rfl (fun w hw => (box_cells (i := 3) rfl w hw))) ?_
              refine F.q rfl rfl rfl (wanted_none rfl) (r_move rfl) ?_
              refine F.ef rfl rfl rfl (wanted_none rfl) (d_callM (xs := _) (cs := [R.sl S30_1 v30_1 (t30_2 : List (Int × Int × Int)), R.sl S30_2 v30_2 (t30_3 : List (Int)), R.sl S30_3 v30_3 (t30_4 : List (Int))]) (rest := [R.sl S49_4 v49_4 (t49_2 : List (Int × Int × Int)), R.sl S49_5 v49_5 (t49_3 : List (Int)), R.sl S49_6 v49_6 (t49_4 : List (Int)), R.box b8_1 67 [.int .i64 t30_1, v30_1, v30_2, v30_3, .int .i64 t30_5], R.box b3_1 64 [.int .i64 a1_0, .int .i64 a1_1, .int .i64 a1_2, .int .i64 a1_3], R.box b2_1 62 [.int .i64 a0_0, va0_1, va0_2, va0_3, .int .i64 a0_4], R.box b6_2 67 [.int .i64 yb6_2_0, vb6_2_1_1, vb6_2_2_1, vb6_2_3_1, .int .i64 yb6_2_4], R.box b9_2 67 [.int .i64 yb9_2_0, vb9_2_1_1, vb9_2_2_1, vb9_2_3_1, .int .i64 yb9_2_4], R.sl Sb6_2_1_1 vb6_2_1_1 (yb6_2_1 : List (Int × Int × Int)), R.sl Sb6_2_2_1 vb6_2_2_1 (yb6_2_2 : List (Int)), R.sl Sb6_2_3_1 vb6_2_3_1 (yb6_2_3 : List (Int)), R.sl Sb9_2_1_1 vb9_2_1_1 (yb9_2_1 : List (Int × Int × Int)), R.sl Sb9_2_2_1 vb9_2_2_1 (yb9_2_2 : List (Int)), R.sl Sb9_2_3_1 vb9_2_3_1 (yb9_2_3 : List (Int))]) [8, 9, 10] [0, 1, 2, 3, 4, 5, 6, 7, 11, 12, 13, 14, 15, 16] rfl ok49 rfl rfl rfl rfl (fun w hw => laws_markVisit.ok h54 w hl_v30_1 hl_v30_2 hl_v30_3 (Sep.sub hw))) ?_
              rintro _ _ ⟨_, ⟨rfl, hl_t54_2, hl_t54_3, hl_t54_4, rfl⟩, rfl⟩
              refine F.q rfl rfl rfl (wanted_none rfl) (r_assign rfl) ?_
              refine F.nil ?_
              refine Nrm.seq ?_
              refine Tri.seq ?_
              refine Tri.seq ?_
              obtain ⟨y67, hE_4, h⟩ := bind_some h
              refine Tri.cut (fun e' C' => e' = [(2, .pointer (some ⟨b2_1, 0, none⟩)), (3, .pointer (some ⟨b3_1, 0, none⟩)), (6, .pointer (some ⟨b6_2, 0, none⟩)), (7, .bool y7), (9, .pointer (some ⟨b9_2, 0, none⟩)), (67, .bool y67)] ∧ C' = Sep w noM [R.box b3_1 64 [.int .i64 a1_0, .int .i64 a1_1, .int .i64 a1_2, .int .i64 a1_3], R.box b2_1 62 [.int .i64 a0_0, va0_1, va0_2, va0_3, .int .i64 a0_4], R.box b6_2 67 [.int .i64 yb6_2_0, vb6_2_1_1, vb6_2_2_1, vb6_2_3_1, .int .i64 yb6_2_4], R.box b9_2 67 [.int .i64 yb9_2_0, vb9_2_1_1, vb9_2_2_1, vb9_2_3_1, .int .i64 yb9_2_4], R.sl Sb6_2_1_1 vb6_2_1_1 (yb6_2_1 : List (Int × Int × Int)), R.sl Sb6_2_2_1 vb6_2_2_1 (yb6_2_2 : List (Int)), R.sl Sb6_2_3_1 vb6_2_3_1 (yb6_2_3 : List (Int)), R.sl Sb9_2_1_1 vb9_2_1_1 (yb9_2_1 : List (Int × Int × Int)), R.sl Sb9_2_2_1 vb9_2_2_1 (yb9_2_2 : List (Int)), R.sl Sb9_2_3_1 vb9_2_3_1 (yb9_2_3 : List (Int))]) ?_ (fun hj_4 => ?_)
              · rintro _ _ ⟨rfl, rfl⟩
                refine Nrm.seq ?_
                refine Tri.cond (b := y67) rfl (fun g_4 => ?_) (fun g_4 => ?_)
                · replace h := if_tt g_4 h
                  refine Tri.seq ?_
                  refine Tri.reg (l := [0]) rfl ?_
                  refine F.q rfl rfl rfl (wanted_none rfl) (r_assign rfl) ?_
                  refine F.nil ?_
                  refine Nrm.seq ?_
                  refine Tri.ret ?_
                  refine Rtn.then ?_
                  cases h
                  exact Rtn.body (.tmp rfl .nil) (fun w hw => ⟨rfl, hw.ext⟩)
                · replace h := if_ff g_4 h
                  refine Tri.skip ?_
                  refine Nrm.seq ?_
                  refine Tri.seq ?_
                  refine Tri.reg (l := [0]) rfl ?_
                  refine F.q rfl rfl rfl (wanted_none rfl) (r_assign rfl) ?_
                  refine F.nil ?_
                  refine Nrm.seq ?_
                  refine Tri.seq ?_
                  obtain ⟨⟨t70_1, t70_2, t70_3, t70_4⟩, h70, h⟩ := bind_some h
                  refine Tri.reg (l := [0, 1, 2, 3]) rfl ?_
                  refine F.q rfl rfl rfl (wanted_none rfl) (r_loadA ta67 ti67 rfl rfl (fun w hw => (box_cells (i := 3) rfl w hw))) ?_
                  refine F.q rfl rfl rfl (wanted_none rfl) (r_move rfl) ?_
                  refine F.ef rfl rfl rfl (wanted_none rfl) (d_callM (xs := _) (cs := [R.sl Sb9_2_1_1 vb9_2_1_1 (yb9_2_1 : List (Int × Int × Int)), R.sl Sb9_2_2_1 vb9_2_2_1 (yb9_2_2 : List (Int)), R.sl Sb9_2_3_1 vb9_2_3_1 (yb9_2_3 : List (Int))]) (rest := [R.box b3_1 64 [.int .i64 a1_0, .int .i64 a1_1, .int .i64 a1_2, .int .i64 a1_3], R.box b2_1 62 [.int .i64 a0_0, va0_1, va0_2, va0_3, .int .i64 a0_4], R.box b6_2 67 [.int .i64 yb6_2_0, vb6_2_1_1, vb6_2_2_1, vb6_2_3_1, .int .i64 yb6_2_4], R.box b9_2 67 [.int .i64 yb9_2_0, vb9_2_1_1, vb9_2_2_1, vb9_2_3_1, .int .i64 yb9_2_4], R.sl Sb6_2_1_1 vb6_2_1_1 (yb6_2_1 : List (Int × Int × Int)), R.sl Sb6_2_2_1 vb6_2_2_1 (yb6_2_2 : List (Int)), R.sl Sb6_2_3_1 vb6_2_3_1 (yb6_2_3 : List (Int))]) [7, 8, 9] [0, 1, 2, 3, 4, 5, 6] rfl ok49 rfl rfl rfl rfl (fun w hw => laws_markVisit.ok h70 w hl_vb9_2_1_1 hl_vb9_2_2_1 hl_vb9_2_3_1 (Sep.sub hw))) ?_
                  rintro _ _ ⟨_, ⟨rfl, hl_t70_2, hl_t70_3, hl_t70_4, rfl⟩, rfl⟩
                  refine F.q rfl rfl rfl (wanted_none rfl) (r_assign rfl) ?_
                  refine F.nil ?_
                  refine Nrm.seq ?_
                  refine Tri.seq ?_
                  refine Tri.reg (l := [0]) rfl ?_
                  refine F.q rfl rfl rfl (wanted_none rfl) (r_assign rfl) ?_
                  refine F.nil ?_
                  refine Nrm.seq ?_
                  refine Tri.seq ?_
                  obtain ⟨t73, h73, h⟩ := bind_some h
                  refine Tri.reg (l := [0, 1, 2, 3]) rfl ?_
                  refine F.q rfl rfl rfl (wanted_none rfl) (r_loadA ta67 ti67 rfl rfl (fun w hw => (box_cells (i := 6) rfl w hw))) ?_
                  refine F.q rfl rfl rfl (wanted_none rfl) (r_move rfl) ?_
                  refine F.qc rfl rfl rfl (wanted_none rfl) (q_callF (xs := _) rfl ok50 rfl rfl (fun w hw => laws_heldVisit.ok h73 w ((rd_sl (i := 0) rfl) w hw) ((rd_sl (i := 1) rfl) w hw) ((rd_sl (i := 2) rfl) w hw))) ?_
                  refine F.q rfl rfl rfl (wanted_none rfl) (r_assign rfl) ?_
                  refine F.nil ?_
                  refine Nrm.seq ?_
                  refine Tri.seq ?_
                  refine Tri.seq ?_
                  refine Tri.reg (l := [0, 1]) rfl ?_
                  refine F.q rfl rfl rfl (wanted_none rfl) (r_move rfl) ?_
                  refine F.q rfl rfl rfl (wanted_none rfl) (r_lss rfl rfl) ?_
                  refine F.nil ?_
                  refine Nrm.seq ?_
                  refine Tri.cond (b := decide (t73 < 0)) rfl (fun g_5 => ?_) (fun g_5 => ?_)
                  · replace h := if_tt g_5 h
                    refine Tri.seq ?_
                    refine Tri.reg (l := [0]) rfl ?_
                    refine F.q rfl rfl rfl (wanted_none rfl) (r_assign rfl) ?_
                    refine F.nil ?_
                    refine Nrm.seq ?_
                    refine Tri.ret ?_
                    refine Rtn.then ?_
                    cases h
                    exact Rtn.body (.tmp rfl .nil) (fun w hw => ⟨rfl, hw.ext⟩)
                  · replace h := if_ff g_5 h
                    refine Tri.skip ?_
                    refine Nrm.seq ?_
                    refine Tri.seq ?_
                    refine Tri.seq ?_
                    refine Tri.reg (l := [0, 1, 2]) rfl ?_
                    refine F.q rfl rfl rfl (wanted_none rfl) (r_move rfl) ?_
                    refine F.q rfl rfl rfl (wanted_none rfl) (r_move rfl) ?_
                    refine F.q rfl rfl rfl (wanted_none rfl) (r_neq rfl rfl) ?_
                    refine F.nil ?_
                    refine Nrm.seq ?_
                    refine Tri.cond (b := t73 != t70_1) rfl (fun g_6 => ?_) (fun g_6 => ?_)
                    · replace h := if_tt g_6 h
                      refine Tri.seq ?_
                      refine Tri.reg (l := [0]) rfl ?_
                      refine F.q rfl rfl rfl (wanted_none rfl) (r_assign rfl) ?_
                      refine F.nil ?_
                      refine Nrm.seq ?_
                      refine Tri.ret ?_
                      refine Rtn.then ?_
                      cases h
                      exact Rtn.body (.tmp rfl .nil) (fun w hw => ⟨rfl, hw.ext⟩)
                    · replace h := if_ff g_6 h
                      refine Tri.skip ?_
                      refine Nrm.seq ?_
                      refine Tri.seq ?_
                      obtain ⟨⟨y15, yb14_2_0, yb14_2_1, yb14_2_2, yb14_2_3, yb14_2_4⟩, hE_5, h⟩ := bind_some h
                      refine Tri.cut (fun e' C' => ∃ (vb14_2_1_1 : Value) (Sb14_2_1_1 : Nat → Prop) (vb14_2_2_1 : Value) (Sb14_2_2_1 : Nat → Prop) (vb14_2_3_1 : Value) (Sb14_2_3_1 : Nat → Prop) (b14_2 : Nat), SlLen vb14_2_1_1 (yb14_2_1).length ∧ SlLen vb14_2_2_1 (yb14_2_2).length ∧ SlLen vb14_2_3_1 (yb14_2_3).length ∧ e' = [(6, .pointer (some ⟨b6_2, 0, none⟩)), (7, .bool y7), (9, .pointer (some ⟨b9_2, 0, none⟩)), (12, .int .i64 t70_1), (14, .pointer (some ⟨b14_2, 0, none⟩)), (15, .bool y15)] ∧ C' = Sep w noM [R.box b6_2 67 [.int .i64 yb6_2_0, vb6_2_1_1, vb6_2_2_1, vb6_2_3_1, .int .i64 yb6_2_4], R.box b9_2 67 [.int .i64 yb9_2_0, vb9_2_1_1, vb9_2_2_1, vb9_2_3_1, .int .i64 yb9_2_4], R.box b14_2 67 [.int .i64 yb14_2_0, vb14_2_1_1, vb14_2_2_1, vb14_2_3_1, .int .i64 yb14_2_4], R.sl Sb14_2_1_1 vb14_2_1_1 (yb14_2_1 : List (Int × Int × Int)), R.sl Sb14_2_2_1 vb14_2_2_1 (yb14_2_2 : List (Int)), R.sl Sb14_2_3_1 vb14_2_3_1 (yb14_2_3 : List (Int)), R.sl Sb6_2_1_1 vb6_2_1_1 (yb6_2_1 : List (Int × Int × Int)), R.sl Sb6_2_2_1 vb6_2_2_1 (yb6_2_2 : List (Int)), R.sl Sb6_2_3_1 vb6_2_3_1 (yb6_2_3 : List (Int)), R.sl Sb9_2_1_1 vb9_2_1_1 (t70_2 : List (Int × Int × Int)), R.sl Sb9_2_2_1 vb9_2_2_1 (t70_3 : List (Int)), R.sl Sb9_2_3_1 vb9_2_3_1 (t70_4 : List (Int))]) ?_ (fun hj_5 => ?_)
                      · rintro _ _ ⟨vb14_2_1_1, Sb14_2_1_1, vb14_2_2_1, Sb14_2_2_1, vb14_2_3_1, Sb14_2_3_1, b14_2, hl_vb14_2_1_1, hl_vb14_2_2_1, hl_vb14_2_3_1, rfl, rfl⟩
                        refine Nrm.seq ?_
                        refine Tri.seq ?_
                        refine Tri.seq ?_
                        obtain ⟨y95, hE_6, h⟩ := bind_some h
                        refine Tri.cut (fun e' C' => e' = [(9, .pointer (some ⟨b9_2, 0, none⟩)), (12, .int .i64 t70_1), (95, .bool y95)] ∧ C' = Sep w noM [R.box b9_2 67 [.int .i64 yb9_2_0, vb9_2_1_1, vb9_2_2_1, vb9_2_3_1, .int .i64 yb9_2_4], R.sl Sb9_2_1_1 vb9_2_1_1 (t70_2 : List (Int × Int × Int)), R.sl Sb9_2_2_1 vb9_2_2_1 (t70_3 : List (Int)), R.sl Sb9_2_3_1 vb9_2_3_1 (t70_4 : List (Int))]) ?_ (fun hj_6 => ?_)
                        · rintro _ _ ⟨rfl, rfl⟩
                          refine Nrm.seq ?_
                          refine Tri.cond (b := y95) rfl (fun g_7 => ?_) (fun g_7 => ?_)
                          · replace h := if_tt g_7 h
                            refine Tri.seq ?_
                            refine Tri.reg (l := [0]) rfl ?_
                            refine F.q rfl rfl rfl (wanted_none rfl) (r_assign rfl) ?_
                            refine F.nil ?_
                            refine Nrm.seq ?_
                            refine Tri.ret ?_
                            refine Rtn.then ?_
                            cases h
                            exact Rtn.body (.tmp rfl .nil) (fun w hw => ⟨rfl, hw.ext⟩)
                          · replace h := if_ff g_7 h
                            refine Tri.skip ?_
                            refine Nrm.seq ?_
                            refine Tri.seq ?_
                            refine Tri.reg (l := [0]) rfl ?_
                            refine F.q rfl rfl rfl (wanted_none rfl) (r_assign rfl) ?_
                            refine F.nil ?_
                            refine Nrm.seq ?_
                            refine Tri.seq ?_
                            obtain ⟨t98, h98, h⟩ := bind_some h
                            refine Tri.reg (l := [0, 1, 2, 3]) rfl ?_
                            refine F.q rfl rfl rfl (wanted_none rfl) (r_loadA ta67 ti67 rfl rfl (fun w hw => (box_cells (i := 0) rfl w hw))) ?_
                            refine F.q rfl rfl rfl (wanted_none rfl) (r_move rfl) ?_
                            refine F.qc rfl rfl rfl (wanted_none rfl) (q_callF (xs := _) rfl ok50 rfl rfl (fun w hw => laws_heldVisit.ok h98 w ((rd_sl (i := 1) rfl) w hw) ((rd_sl (i := 2) rfl) w hw) ((rd_sl (i := 3) rfl) w hw))) ?_
                            refine F.q rfl rfl rfl (wanted_none rfl) (r_assign rfl) ?_
                            refine F.nil ?_
                            refine Nrm.seq ?_
                            refine Tri.seq ?_
                            refine Tri.seq ?_
                            refine Tri.reg (l := [0, 1]) rfl ?_
                            refine F.q rfl rfl rfl (wanted_none rfl) (r_move rfl) ?_
                            refine F.q rfl rfl rfl (wanted_none rfl) (r_lss rfl rfl) ?_
                            refine F.nil ?_
                            refine Nrm.seq ?_
                            refine Tri.cond (b := decide (t98 < 0)) rfl (fun g_8 => ?_) (fun g_8 => ?_)
                            · replace h := if_tt g_8 h
                              refine Tri.seq ?_
                              refine Tri.reg (l := [0]) rfl ?_
                              refine F.q rfl rfl rfl (wanted_none rfl) (r_assign rfl) ?_
                              refine F.nil ?_
                              refine Nrm.seq ?_
                              refine Tri.ret ?_
                              refine Rtn.then ?_
                              cases h
                              exact Rtn.body (.tmp rfl .nil) (fun w hw => ⟨rfl, hw.ext⟩)
                            · replace h := if_ff g_8 h
                              refine Tri.skip ?_
                              refine Nrm.seq ?_
                              refine Tri.seq ?_
                              refine Tri.seq ?_
                              refine Tri.reg (l := [0, 1, 2]) rfl ?_
                              refine F.q rfl rfl rfl (wanted_none rfl) (r_move rfl) ?_
                              refine F.q rfl rfl rfl (wanted_none rfl) (r_move rfl) ?_
                              refine F.q rfl rfl rfl (wanted_none rfl) (r_neq rfl rfl) ?_
                              refine F.nil ?_
                              refine Nrm.seq ?_
                              refine Tri.cond (b := t98 != t70_1) rfl (fun g_9 => ?_) (fun g_9 => ?_)
                              · replace h := if_tt g_9 h
                                refine Tri.seq ?_
                                refine Tri.reg (l := [0]) rfl ?_
                                refine F.q rfl rfl rfl (wanted_none rfl) (r_assign rfl) ?_
                                refine F.nil ?_
                                refine Nrm.seq ?_
                                refine Tri.ret ?_
                                refine Rtn.then ?_
                                cases h
                                exact Rtn.body (.tmp rfl .nil) (fun w hw => ⟨rfl, hw.ext⟩)
                              · replace h := if_ff g_9 h
                                refine Tri.skip ?_
                                refine Nrm.seq ?_
                                refine Tri.seq ?_
                                refine Tri.reg (l := [0]) rfl ?_
                                refine F.q rfl rfl rfl (wanted_none rfl) (r_assign rfl) ?_
                                refine F.nil ?_
                                refine Nrm.seq ?_
                                refine Tri.ret ?_
                                cases h
                                exact Rtn.body (.tmp rfl .nil) (fun w hw => ⟨rfl, hw.ext⟩)
                        · obtain ⟨t89, h89, hE_6⟩ := bind_some hE_6
                          rcases Bool.eq_false_or_eq_true (!t89) with g91 | g91
                          · replace hE_6 := if_tt g91 hE_6
                            refine Tri.reg (l := [0, 1, 2, 3, 4, 5, 6, 7, 8]) rfl ?_
                            refine F.q rfl rfl rfl (wanted_none rfl) (r_loadA ta67 ti67 rfl rfl (fun w hw => (box_cells (i := 2) rfl w hw))) ?_
                            refine F.q rfl rfl rfl (wanted_none rfl) (r_loadA ta67 ti67 rfl rfl (fun w hw => (box_cells (i := 0) rfl w hw))) ?_
                            refine F.qc rfl rfl rfl (wanted_none rfl) (q_callF (xs := _) rfl ok48 rfl rfl (fun w hw => laws_eqVisit.ok h89 w ((rd_sl (i := 3) rfl) w hw) ((rd_sl (i := 4) rfl) w hw) ((rd_sl (i := 5) rfl) w hw) ((rd_sl (i := 6) rfl) w hw) ((rd_sl (i := 7) rfl) w hw) ((rd_sl (i := 8) rfl) w hw))) ?_
                            refine F.q rfl rfl rfl (wanted_none rfl) (r_not rfl) ?_
                            refine F.q rfl rfl rfl (wanted_none rfl) (r_move rfl) ?_
                            refine F.sk rfl rfl rfl (wf rfl rfl rfl g91) ?_
                            refine F.sk rfl rfl rfl (wf rfl rfl rfl g91) ?_
                            refine F.sk rfl rfl rfl (wf rfl rfl rfl g91) ?_
                            refine F.q rfl rfl rfl (wanted_none rfl) (r_pick rfl rfl g91) ?_
                            refine F.nil ?_
                            cases hE_6
                            refine Nrm.only [9, 12, 95] rfl ?_
                            refine Nrm.pick [1, 9, 10, 11] rfl rfl ?_
                            exact hj_6 _ _ ⟨rfl, rfl⟩
                          · replace hE_6 := if_ff g91 hE_6
                            refine Tri.reg (l := [0, 1, 2, 3, 4, 5, 6, 7, 8]) rfl ?_
                            refine F.q rfl rfl rfl (wanted_none rfl) (r_loadA ta67 ti67 rfl rfl (fun w hw => (box_cells (i := 2) rfl w hw))) ?_
                            refine F.q rfl rfl rfl (wanted_none rfl) (r_loadA ta67 ti67 rfl rfl (fun w hw => (box_cells (i := 0) rfl w hw))) ?_
                            refine F.qc rfl rfl rfl (wanted_none rfl) (q_callF (xs := _) rfl ok48 rfl rfl (fun w hw => laws_eqVisit.ok h89 w ((rd_sl (i := 3) rfl) w hw) ((rd_sl (i := 4) rfl) w hw) ((rd_sl (i := 5) rfl) w hw) ((rd_sl (i := 6) rfl) w hw) ((rd_sl (i := 7) rfl) w hw) ((rd_sl (i := 8) rfl) w hw))) ?_
                            refine F.q rfl rfl rfl (wanted_none rfl) (r_not rfl) ?_
                            refine F.q rfl rfl rfl (wanted_none rfl) (r_move rfl) ?_
                            refine F.q rfl rfl rfl (wg rfl rfl rfl g91) (r_move rfl) ?_
                            refine F.q rfl rfl rfl (wg rfl rfl rfl g91) (r_move rfl) ?_
                            refine F.q rfl rfl rfl (wg rfl rfl rfl g91) (r_neqB Try.underlying4 rfl rfl) ?_
                            refine F.q rfl rfl rfl (wanted_none rfl) (r_pickf rfl rfl g91) ?_
                            refine F.nil ?_
                            cases hE_6
                            refine Nrm.only [9, 12, 95] rfl ?_
                            refine Nrm.pick [1, 9, 10, 11] rfl rfl ?_
                            exact hj_6 _ _ ⟨rfl, rfl⟩
                      · obtain ⟨⟨t81_1, t81_2, t81_3, t81_4, t81_5⟩, h81, hE_5⟩ := bind_some hE_5
                        obtain ⟨⟨t83_1, t83_2, t83_3, t83_4⟩, h83, hE_5⟩ := bind_some hE_5
                        obtain ⟨⟨t84_1, t84_2, t84_3, t84_4, t84_5, t84_6⟩, h84, hE_5⟩ := bind_some hE_5
                        refine Tri.drawT mixedT Sep.up [0, 2, 1, 3, 4, 5, 6, 7, 8, 9] [10] (.q 0 (.q 2 (.alt 1 (.alt 3 (.alt 4 (.alt 5 (.alt 6 (.alt 7 (.alt 8 (.alt 9 .nil .stop) .stop) (.alt 8 (.alt 7 (.alt 9 .nil .stop) (.alt 9 (.alt 7 .nil .stop) .stop)) .stop)) (.alt 7 (.alt 6 (.alt 8 (.alt 9 .nil .stop) .stop) (.alt 8 (.alt 6 (.alt 9 .nil .stop) .stop) .stop)) (.alt 8 (.alt 6 (.alt 7 (.alt 9 .nil .stop) (.alt 9 (.alt 7 .nil .stop) .stop)) (.alt 7 (.alt 6 (.alt 9 .nil .stop) .stop) .stop)) .stop))) (.alt 8 (.alt 5 (.alt 6 (.alt 7 (.alt 9 .nil .stop) (.alt 9 (.alt 7 .nil .stop) .stop)) (.alt 7 (.alt 6 (.alt 9 .nil .stop) .stop) .stop)) .stop) .stop)) (.alt 8 (.alt 4 (.alt 5 (.alt 6 (.alt 7 (.alt 9 .nil .stop) (.alt 9 (.alt 7 .nil .stop) .stop)) (.alt 7 (.alt 6 (.alt 9 .nil .stop) .stop) .stop)) .stop) .stop) .stop)) (.alt 8 (.alt 3 (.alt 4 (.alt 5 (.alt 6 (.alt 7 (.alt 9 .nil .stop) (.alt 9 (.alt 7 .nil .stop) .stop)) (.alt 7 (.alt 6 (.alt 9 .nil .stop) .stop) .stop)) .stop) .stop) .stop) .stop)) (.alt 8 (.alt 1 (.alt 3 (.alt 4 (.alt 5 (.alt 6 (.alt 7 (.alt 9 .nil .stop) (.alt 9 (.alt 7 .nil .stop) .stop)) (.alt 7 (.alt 6 (.alt 9 .nil .stop) .stop) .stop)) .stop) .stop) .stop) .stop) .stop)))) (by kernel_rfl) ?_
                        refine T.q rfl rfl rfl (wanted_none rfl) (r_loadA ta62 ti62 rfl rfl (fun w hw => (box_cells (i := 4) rfl w hw))) ?_
                        refine T.q rfl rfl rfl (wanted_none rfl) (r_loadA ta64 ti64 rfl rfl (fun w hw => (box_cells (i := 3) rfl w hw))) ?_
                        refine T.ef rfl rfl rfl (wanted_none rfl) (Makes.does (m_callF (xs := _) rfl ok45 rfl rfl (fun w hw => laws_toVisit.ok h81 w ((fun _ hw => hr_a0_1.sep hw) w hw) ((fun _ hw => hr_a0_2.sep hw) w hw) ((fun _ hw => hr_a0_3.sep hw) w hw)))) (by rintro _ _ ⟨_, ⟨v81_4, S81_4, v81_5, S81_5, v81_6, S81_6, rfl, hl_v81_4, hl_v81_5, hl_v81_6, rfl⟩, rfl⟩; exact upd rfl [3, 4, 5, 6, 7, 8, 9, 10, 11, 12] rfl rfl) ?_ ?_
                        · rintro _ _ ⟨_, ⟨v81_4, S81_4, v81_5, S81_5, v81_6, S81_6, rfl, hl_v81_4, hl_v81_5, hl_v81_6, rfl⟩, rfl⟩
                          refine T.ef rfl rfl rfl (wanted_none rfl) (qc_does (q_callF (xs := _) rfl ok46 rfl rfl (fun w hw => laws_toDeed.ok h83 w ))) (by rintro _ _ ⟨rfl, rfl⟩; exact upd rfl [3, 4, 5, 6, 7, 8, 9, 10, 11, 12] rfl rfl) ?_ ?_
                          · rintro _ _ ⟨rfl, rfl⟩
                            refine T.ef rfl rfl rfl (wanted_none rfl) (Makes.does (m_callF (xs := _) rfl ok47 rfl rfl (fun w hw => impl_DoDeed.ok h84 w ((rd_sl (i := 0) rfl) w hw) ((rd_sl (i := 1) rfl) w hw) ((rd_sl (i := 2) rfl) w hw)))) (by rintro _ _ ⟨_, ⟨v84_4, S84_4, v84_5, S84_5, v84_6, S84_6, rfl, hl_v84_4, hl_v84_5, hl_v84_6, rfl⟩, rfl⟩; exact upd rfl [6, 7, 8, 9, 10, 11, 12, 13, 14, 15] rfl rfl) ?_ ?_
                            · rintro _ _ ⟨_, ⟨v84_4, S84_4, v84_5, S84_5, v84_6, S84_6, rfl, hl_v84_4, hl_v84_5, hl_v84_6, rfl⟩, rfl⟩
                              refine T.ef rfl rfl rfl (wanted_none rfl) (Runs.does (r_move rfl)) (by rintro _ _ ⟨rfl, rfl⟩; exact upd rfl [6, 7, 8, 9, 10, 11, 12, 13, 14, 15] rfl rfl) ?_ ?_
                              · rintro _ _ ⟨rfl, rfl⟩
                                refine T.ef rfl rfl rfl (wanted_none rfl) (Runs.does (r_extract rfl rfl)) (by rintro _ _ ⟨rfl, rfl⟩; exact upd rfl [6, 7, 8, 9, 10, 11, 12, 13, 14, 15] rfl rfl) ?_ ?_
                                · rintro _ _ ⟨rfl, rfl⟩
                                  refine T.ef rfl rfl rfl (wanted_none rfl) (Runs.does (r_extract rfl rfl)) (by rintro _ _ ⟨rfl, rfl⟩; exact upd rfl [6, 7, 8, 9, 10, 11, 12, 13, 14, 15] rfl rfl) ?_ ?_
                                  · rintro _ _ ⟨rfl, rfl⟩
                                    refine T.ef rfl rfl rfl (wanted_none rfl) (Makes.does (m_alloc ti67)) (by rintro _ _ ⟨b14_3, rfl, rfl⟩; exact upd rfl [7, 8, 9, 10, 11, 12, 13, 14, 15, 16] rfl rfl) ?_ ?_
                                    · rintro _ _ ⟨b14_3, rfl, rfl⟩
                                      refine T.ef0 rfl rfl (wanted_none rfl) (d_storeG0 (i := 0) (cs2 := [.int .i64 t84_1, v84_4, v84_5, v84_6, .int .i64 t84_5]) ti67 rfl rfl rfl rfl rfl (Nat.le_of_ble_eq_true rfl) (lf_cons rfl (lf_cons (sl_leaf hl_v84_4) (lf_cons (sl_leaf hl_v84_5) (lf_cons (sl_leaf hl_v84_6) (lf_cons rfl lf_nil)))))) (by rintro _ _ ⟨rfl, rfl⟩; exact upd rfl [7, 8, 9, 10, 11, 12, 13, 14, 15, 16] rfl rfl) ?_ ?_
                                      · rintro _ _ ⟨rfl, rfl⟩
                                        refine T.nil ?_
                                        refine F.q rfl rfl rfl (wanted_none rfl) (r_assign rfl) ?_
                                        refine F.nil ?_
                                        cases hE_5
                                        refine Nrm.only [6, 7, 9, 12, 14, 15] rfl ?_
                                        refine Nrm.pick [12, 13, 0, 1, 2, 3, 14, 15, 16, 7, 8, 9] rfl rfl ?_
                                        exact hj_5 _ _ ⟨v84_4, S84_4, v84_5, S84_5, v84_6, S84_6, b14_3, hl_v84_4, hl_v84_5, hl_v84_6, rfl, rfl⟩
                                      exact T.stop
                                    exact T.stop
                                  · refine T.ef rfl rfl rfl (wanted_none rfl) (Makes.does (m_alloc ti67)) (by rintro _ _ ⟨b14_4, rfl, rfl⟩; exact upd rfl [7, 8, 9, 10, 11, 12, 13, 14, 15, 16] rfl rfl) ?_ ?_
                                    · rintro _ _ ⟨b14_4, rfl, rfl⟩
                                      refine T.ef rfl rfl rfl (wanted_none rfl) (Runs.does (r_extract rfl rfl)) (by rintro _ _ ⟨rfl, rfl⟩; exact upd rfl [7, 8, 9, 10, 11, 12, 13, 14, 15, 16] rfl rfl) ?_ ?_
                                      · rintro _ _ ⟨rfl, rfl⟩
                                        refine T.ef0 rfl rfl (wanted_none rfl) (d_storeG0 (i := 0) (cs2 := [.int .i64 t84_1, v84_4, v84_5, v84_6, .int .i64 t84_5]) ti67 rfl rfl rfl rfl rfl (Nat.le_of_ble_eq_true rfl) (lf_cons rfl (lf_cons (sl_leaf hl_v84_4) (lf_cons (sl_leaf hl_v84_5) (lf_cons (sl_leaf hl_v84_6) (lf_cons rfl lf_nil)))))) (by rintro _ _ ⟨rfl, rfl⟩; exact upd rfl [7, 8, 9, 10, 11, 12, 13, 14, 15, 16] rfl rfl) ?_ ?_
                                        · rintro _ _ ⟨rfl, rfl⟩
                                          refine T.nil ?_
                                          refine F.q rfl rfl rfl (wanted_none rfl) (r_assign rfl) ?_
                                          refine F.nil ?_
                                          cases hE_5
                                          refine Nrm.only [6, 7, 9, 12, 14, 15] rfl ?_
                                          refine Nrm.pick [12, 13, 0, 1, 2, 3, 14, 15, 16, 7, 8, 9] rfl rfl ?_
                                          exact hj_5 _ _ ⟨v84_4, S84_4, v84_5, S84_5, v84_6, S84_6, b14_4, hl_v84_4, hl_v84_5, hl_v84_6, rfl, rfl⟩
                                        exact T.stop
                                      · refine T.ef0 rfl rfl (wanted_none rfl) (d_storeG0 (i := 0) (cs2 := [.int .i64 t84_1, v84_4, v84_5, v84_6, .int .i64 t84_5]) ti67 rfl rfl rfl rfl rfl (Nat.le_of_ble_eq_true rfl) (lf_cons rfl (lf_cons (sl_leaf hl_v84_4) (lf_cons (sl_leaf hl_v84_5) (lf_cons (sl_leaf hl_v84_6) (lf_cons rfl lf_nil)))))) (by rintro _ _ ⟨rfl, rfl⟩; exact upd rfl [7, 8, 9, 10, 11, 12, 13, 14, 15, 16] rfl rfl) ?_ ?_
                                        · rintro _ _ ⟨rfl, rfl⟩
                                          refine T.ef rfl rfl rfl (wanted_none rfl) (Runs.does (r_extract rfl rfl)) (by rintro _ _ ⟨rfl, rfl⟩; exact upd rfl [7, 8, 9, 10, 11, 12, 13, 14, 15, 16] rfl rfl) ?_ ?_
                                          · rintro _ _ ⟨rfl, rfl⟩
                                            refine T.nil ?_
                                            refine F.q rfl rfl rfl (wanted_none rfl) (r_assign rfl) ?_
                                            refine F.nil ?_
                                            cases hE_5
                                            refine Nrm.only [6, 7, 9, 12, 14, 15] rfl ?_
                                            refine Nrm.pick [12, 13, 0, 1, 2, 3, 14, 15, 16, 7, 8, 9] rfl rfl ?_
                                            exact hj_5 _ _ ⟨v84_4, S84_4, v84_5, S84_5, v84_6, S84_6, b14_4, hl_v84_4, hl_v84_5, hl_v84_6, rfl, rfl⟩
                                          exact T.stop
                                        exact T.stop
                                    exact T.stop
                                · refine T.ef rfl rfl rfl (wanted_none rfl) (Runs.does (r_extract rfl rfl)) (by rintro _ _ ⟨rfl, rfl⟩; exact upd rfl [6, 7, 8, 9, 10, 11, 12, 13, 14, 15] rfl rfl) ?_ ?_
                                  · rintro _ _ ⟨rfl, rfl⟩
                                    refine T.ef rfl rfl rfl (wanted_none rfl) (Runs.does (r_extract rfl rfl)) (by rintro _ _ ⟨rfl, rfl⟩; exact upd rfl [6, 7, 8, 9, 10, 11, 12, 13, 14, 15] rfl rfl) ?_ ?_
                                    · rintro _ _ ⟨rfl, rfl⟩
                                      refine T.ef rfl rfl rfl (wanted_none rfl) (Makes.does (m_alloc ti67)) (by rintro _ _ ⟨b14_5, rfl, rfl⟩; exact upd rfl [7, 8, 9, 10, 11, 12, 13, 14, 15, 16] rfl rfl) ?_ ?_
                                      · rintro _ _ ⟨b14_5, rfl, rfl⟩
                                        refine T.ef0 rfl rfl (wanted_none rfl) (d_storeG0 (i := 0) (cs2 := [.int .i64 t84_1, v84_4, v84_5, v84_6, .int .i64 t84_5]) ti67 rfl rfl rfl rfl rfl (Nat.le_of_ble_eq_true rfl) (lf_cons rfl (lf_cons (sl_leaf hl_v84_4) (lf_cons (sl_leaf hl_v84_5) (lf_cons (sl_leaf hl_v84_6) (lf_cons rfl lf_nil)))))) (by rintro _ _ ⟨rfl, rfl⟩; exact upd rfl [7, 8, 9, 10, 11, 12, 13, 14, 15, 16] rfl rfl) ?_ ?_
                                        · rintro _ _ ⟨rfl, rfl⟩
                                          refine T.nil ?_
                                          refine F.q rfl rfl rfl (wanted_none rfl) (r_assign rfl) ?_
                                          refine F.nil ?_
                                          cases hE_5
                                          refine Nrm.only [6, 7, 9, 12, 14, 15] rfl ?_
                                          refine Nrm.pick [12, 13, 0, 1, 2, 3, 14, 15, 16, 7, 8, 9] rfl rfl ?_
                                          exact hj_5 _ _ ⟨v84_4, S84_4, v84_5, S84_5, v84_6, S84_6, b14_5, hl_v84_4, hl_v84_5, hl_v84_6, rfl, rfl⟩
                                        exact T.stop
                                      exact T.stop
                                    · refine T.ef rfl rfl rfl (wanted_none rfl) (Makes.does (m_alloc ti67)) (by rintro _ _ ⟨b14_6, rfl, rfl⟩; exact upd rfl [7, 8, 9, 10, 11, 12, 13, 14, 15, 16] rfl rfl) ?_ ?_
                                      · rintro _ _ ⟨b14_6, rfl, rfl⟩
                                        refine T.ef rfl rfl rfl (wanted_none rfl) (Runs.does (r_extract rfl rfl)) (by rintro _ _ ⟨rfl, rfl⟩; exact upd rfl [7, 8, 9, 10, 11, 12, 13, 14, 15, 16] rfl rfl) ?_ ?_
                                        · rintro _ _ ⟨rfl, rfl⟩
                                          refine T.ef0 rfl rfl (wanted_none rfl) (d_storeG0 (i := 0) (cs2 := [.int .i64 t84_1, v84_4, v84_5, v84_6, .int .i64 t84_5]) ti67 rfl rfl rfl rfl rfl (Nat.le_of_ble_eq_true rfl) (lf_cons rfl (lf_cons (sl_leaf hl_v84_4) (lf_cons (sl_leaf hl_v84_5) (lf_cons (sl_leaf hl_v84_6) (lf_cons rfl lf_nil)))))) (by rintro _ _ ⟨rfl, rfl⟩; exact upd rfl [7, 8, 9, 10, 11, 12, 13, 14, 15, 16] rfl rfl) ?_ ?_
                                          · rintro _ _ ⟨rfl, rfl⟩
                                            refine T.nil ?_
                                            refine F.q rfl rfl rfl (wanted_none rfl) (r_assign rfl) ?_
                                            refine F.nil ?_
                                            cases hE_5
                                            refine Nrm.only [6, 7, 9, 12, 14, 15] rfl ?_
                                            refine Nrm.pick [12, 13, 0, 1, 2, 3, 14, 15, 16, 7, 8, 9] rfl rfl ?_
                                            exact hj_5 _ _ ⟨v84_4, S84_4, v84_5, S84_5, v84_6, S84_6, b14_6, hl_v84_4, hl_v84_5, hl_v84_6, rfl, rfl⟩
                                          exact T.stop
                                        exact T.stop
                                      exact T.stop
                                  · refine T.ef rfl rfl rfl (wanted_none rfl) (Makes.does (m_alloc ti67)) (by rintro _ _ ⟨b14_7, rfl, rfl⟩; exact upd rfl [7, 8, 9, 10, 11, 12, 13, 14, 15, 16] rfl rfl) ?_ ?_
                                    · rintro _ _ ⟨b14_7, rfl, rfl⟩
                                      refine T.ef rfl rfl rfl (wanted_none rfl) (Runs.does (r_extract rfl rfl)) (by rintro _ _ ⟨rfl, rfl⟩; exact upd rfl [7, 8, 9, 10, 11, 12, 13, 14, 15, 16] rfl rfl) ?_ ?_
                                      · rintro _ _ ⟨rfl, rfl⟩
                                        refine T.ef rfl rfl rfl (wanted_none rfl) (Runs.does (r_extract rfl rfl)) (by rintro _ _ ⟨rfl, rfl⟩; exact upd rfl [7, 8, 9, 10, 11, 12, 13, 14, 15, 16] rfl rfl) ?_ ?_
                                        · rintro _ _ ⟨rfl, rfl⟩
                                          refine T.ef0 rfl rfl (wanted_none rfl) (d_storeG0 (i := 0) (cs2 := [.int .i64 t84_1, v84_4, v84_5, v84_6, .int .i64 t84_5]) ti67 rfl rfl rfl rfl rfl (Nat.le_of_ble_eq_true rfl) (lf_cons rfl (lf_cons (sl_leaf hl_v84_4) (lf_cons (sl_leaf hl_v84_5) (lf_cons (sl_leaf hl_v84_6) (lf_cons rfl lf_nil)))))) (by rintro _ _ ⟨rfl, rfl⟩; exact upd rfl [7, 8, 9, 10, 11, 12, 13, 14, 15, 16] rfl rfl) ?_ ?_
                                          · rintro _ _ ⟨rfl, rfl⟩
                                            refine T.nil ?_
                                            refine F.q rfl rfl rfl (wanted_none rfl) (r_assign rfl) ?_
                                            refine F.nil ?_
                                            cases hE_5
                                            refine Nrm.only [6, 7, 9, 12, 14, 15] rfl ?_
                                            refine Nrm.pick [12, 13, 0, 1, 2, 3, 14, 15, 16, 7, 8, 9] rfl rfl ?_
                                            exact hj_5 _ _ ⟨v84_4, S84_4, v84_5, S84_5, v84_6, S84_6, b14_7, hl_v84_4, hl_v84_5, hl_v84_6, rfl, rfl⟩
                                          exact T.stop
                                        · refine T.ef0 rfl rfl (wanted_none rfl) (d_storeG0 (i := 0) (cs2 := [.int .i64 t84_1, v84_4, v84_5, v84_6, .int .i64 t84_5]) ti67 rfl rfl rfl rfl rfl (Nat.le_of_ble_eq_true rfl) (lf_cons rfl (lf_cons (sl_leaf hl_v84_4) (lf_cons (sl_leaf hl_v84_5) (lf_cons (sl_leaf hl_v84_6) (lf_cons rfl lf_nil)))))) (by rintro _ _ ⟨rfl, rfl⟩; exact upd rfl [7, 8, 9, 10, 11, 12, 13, 14, 15, 16] rfl rfl) ?_ ?_
                                          · rintro _ _ ⟨rfl, rfl⟩
                                            refine T.ef rfl rfl rfl (wanted_none rfl) (Runs.does (r_extract rfl rfl)) (by rintro _ _ ⟨rfl, rfl⟩; exact upd rfl [7, 8, 9, 10, 11, 12, 13, 14, 15, 16] rfl rfl) ?_ ?_
                                            · rintro _ _ ⟨rfl, rfl⟩
                                              refine T.nil ?_
                                              refine F.q rfl rfl rfl (wanted_none rfl) (r_assign rfl) ?_
                                              refine F.nil ?_
                                              cases hE_5
                                              refine Nrm.only [6, 7, 9, 12, 14, 15] rfl ?_
                                              refine Nrm.pick [12, 13, 0, 1, 2, 3, 14, 15, 16, 7, 8, 9] rfl rfl ?_
                                              exact hj_5 _ _ ⟨v84_4, S84_4, v84_5, S84_5, v84_6, S84_6, b14_7, hl_v84_4, hl_v84_5, hl_v84_6, rfl, rfl⟩
                                            exact T.stop
                                          exact T.stop
                                      · refine T.ef rfl rfl rfl (wanted_none rfl) (Runs.does (r_extract rfl rfl)) (by rintro _ _ ⟨rfl, rfl⟩; exact upd rfl [7, 8, 9, 10, 11, 12, 13, 14, 15, 16] rfl rfl) ?_ ?_
                                        · rintro _ _ ⟨rfl, rfl⟩
                                          refine T.ef rfl rfl rfl (wanted_none rfl) (Runs.does (r_extract rfl rfl)) (by rintro _ _ ⟨rfl, rfl⟩; exact upd rfl [7, 8, 9, 10, 11, 12, 13, 14, 15, 16] rfl rfl) ?_ ?_
                                          · rintro _ _ ⟨rfl, rfl⟩
                                            refine T.ef0 rfl rfl (wanted_none rfl) (d_storeG0 (i := 0) (cs2 := [.int .i64 t84_1, v84_4, v84_5, v84_6, .int .i64 t84_5]) ti67 rfl rfl rfl rfl rfl (Nat.le_of_ble_eq_true rfl) (lf_cons rfl (lf_cons (sl_leaf hl_v84_4) (lf_cons (sl_leaf hl_v84_5) (lf_cons (sl_leaf hl_v84_6) (lf_cons rfl lf_nil)))))) (by rintro _ _ ⟨rfl, rfl⟩; exact upd rfl [7, 8, 9, 10, 11, 12, 13, 14, 15, 16] rfl rfl) ?_ ?_
                                            · rintro _ _ ⟨rfl, rfl⟩
                                              refine T.nil ?_
                                              refine F.q rfl rfl rfl (wanted_none rfl) (r_assign rfl) ?_
                                              refine F.nil ?_
                                              cases hE_5
                                              refine Nrm.only [6, 7, 9, 12, 14, 15] rfl ?_
                                              refine Nrm.pick [12, 13, 0, 1, 2, 3, 14, 15, 16, 7, 8, 9] rfl rfl ?_
                                              exact hj_5 _ _ ⟨v84_4, S84_4, v84_5, S84_5, v84_6, S84_6, b14_7, hl_v84_4, hl_v84_5, hl_v84_6, rfl, rfl⟩
                                            exact T.stop
                                          exact T.stop
                                        exact T.stop
                                    exact T.stop
                              · refine T.ef rfl rfl rfl (wanted_none rfl) (Makes.does (m_alloc ti67)) (by rintro _ _ ⟨b14_8, rfl, rfl⟩; exact upd rfl [7, 8, 9, 10, 11, 12, 13, 14, 15, 16] rfl rfl) ?_ ?_
                                · rintro _ _ ⟨b14_8, rfl, rfl⟩
                                  refine T.ef rfl rfl rfl (wanted_none rfl) (Runs.does (r_move rfl)) (by rintro _ _ ⟨rfl, rfl⟩; exact upd rfl [7, 8, 9, 10, 11, 12, 13, 14, 15, 16] rfl rfl) ?_ ?_
                                  · rintro _ _ ⟨rfl, rfl⟩
                                    refine T.ef rfl rfl rfl (wanted_none rfl) (Runs.does (r_extract rfl rfl)) (by rintro _ _ ⟨rfl, rfl⟩; exact upd rfl [7, 8, 9, 10, 11, 12, 13, 14, 15, 16] rfl rfl) ?_ ?_
                                    · rintro _ _ ⟨rfl, rfl⟩
                                      refine T.ef rfl rfl rfl (wanted_none rfl) (Runs.does (r_extract rfl rfl)) (by rintro _ _ ⟨rfl, rfl⟩; exact upd rfl [7, 8, 9, 10, 11, 12, 13, 14, 15, 16] rfl rfl) ?_ ?_
                                      · rintro _ _ ⟨rfl, rfl⟩
                                        refine T.ef0 rfl rfl (wanted_none rfl) (d_storeG0 (i := 0) (cs2 := [.int .i64 t84_1, v84_4, v84_5, v84_6, .int .i64 t84_5]) ti67 rfl rfl rfl rfl rfl (Nat.le_of_ble_eq_true rfl) (lf_cons rfl (lf_cons (sl_leaf hl_v84_4) (lf_cons (sl_leaf hl_v84_5) (lf_cons (sl_leaf hl_v84_6) (lf_cons rfl lf_nil)))))) (by rintro _ _ ⟨rfl, rfl⟩; exact upd rfl [7, 8, 9, 10, 11, 12, 13, 14, 15, 16] rfl rfl) ?_ ?_
                                        · rintro _ _ ⟨rfl, rfl⟩
                                          refine T.nil ?_
                                          refine F.q rfl rfl rfl (wanted_none rfl) (r_assign rfl) ?_
                                          refine F.nil ?_
                                          cases hE_5
                                          refine Nrm.only [6, 7, 9, 12, 14, 15] rfl ?_
                                          refine Nrm.pick [12, 13, 0, 1, 2, 3, 14, 15, 16, 7, 8, 9] rfl rfl ?_
                                          exact hj_5 _ _ ⟨v84_4, S84_4, v84_5, S84_5, v84_6, S84_6, b14_8, hl_v84_4, hl_v84_5, hl_v84_6, rfl, rfl⟩
                                        exact T.stop
                                      · refine T.ef0 rfl rfl (wanted_none rfl) (d_storeG0 (i := 0) (cs2 := [.int .i64 t84_1, v84_4, v84_5, v84_6, .int .i64 t84_5]) ti67 rfl rfl rfl rfl rfl (Nat.le_of_ble_eq_true rfl) (lf_cons rfl (lf_cons (sl_leaf hl_v84_4) (lf_cons (sl_leaf hl_v84_5) (lf_cons (sl_leaf hl_v84_6) (lf_cons rfl lf_nil)))))) (by rintro _ _ ⟨rfl, rfl⟩; exact upd rfl [7, 8, 9, 10, 11, 12, 13, 14, 15, 16] rfl rfl) ?_ ?_
                                        · rintro _ _ ⟨rfl, rfl⟩
                                          refine T.ef rfl rfl rfl (wanted_none rfl) (Runs.does (r_extract rfl rfl)) (by rintro _ _ ⟨rfl, rfl⟩; exact upd rfl [7, 8, 9, 10, 11, 12, 13, 14, 15, 16] rfl rfl) ?_ ?_
                                          · rintro _ _ ⟨rfl, rfl⟩
                                            refine T.nil ?_
                                            refine F.q rfl rfl rfl (wanted_none rfl) (r_assign rfl) ?_
                                            refine F.nil ?_
                                            cases hE_5
                                            refine Nrm.only [6, 7, 9, 12, 14, 15] rfl ?_
                                            refine Nrm.pick [12, 13, 0, 1, 2, 3, 14, 15, 16, 7, 8, 9] rfl rfl ?_
                                            exact hj_5 _ _ ⟨v84_4, S84_4, v84_5, S84_5, v84_6, S84_6, b14_8, hl_v84_4, hl_v84_5, hl_v84_6, rfl, rfl⟩
                                          exact T.stop
                                        exact T.stop
                                    · refine T.ef rfl rfl rfl (wanted_none rfl) (Runs.does (r_extract rfl rfl)) (by rintro _ _ ⟨rfl, rfl⟩; exact upd rfl [7, 8, 9, 10, 11, 12, 13, 14, 15, 16] rfl rfl) ?_ ?_
                                      · rintro _ _ ⟨rfl, rfl⟩
                                        refine T.ef rfl rfl rfl (wanted_none rfl) (Runs.does (r_extract rfl rfl)) (by rintro _ _ ⟨rfl, rfl⟩; exact upd rfl [7, 8, 9, 10, 11, 12, 13, 14, 15, 16] rfl rfl) ?_ ?_
                                        · rintro _ _ ⟨rfl, rfl⟩
                                          refine T.ef0 rfl rfl (wanted_none rfl) (d_storeG0 (i := 0) (cs2 := [.int .i64 t84_1, v84_4, v84_5, v84_6, .int .i64 t84_5]) ti67 rfl rfl rfl rfl rfl (Nat.le_of_ble_eq_true rfl) (lf_cons rfl (lf_cons (sl_leaf hl_v84_4) (lf_cons (sl_leaf hl_v84_5) (lf_cons (sl_leaf hl_v84_6) (lf_cons rfl lf_nil)))))) (by rintro _ _ ⟨rfl, rfl⟩; exact upd rfl [7, 8, 9, 10, 11, 12, 13, 14, 15, 16] rfl rfl) ?_ ?_
                                          · rintro _ _ ⟨rfl, rfl⟩
                                            refine T.nil ?_
                                            refine F.q rfl rfl rfl (wanted_none rfl) (r_assign rfl) ?_
                                            refine F.nil ?_
                                            cases hE_5
                                            refine Nrm.only [6, 7, 9, 12, 14, 15] rfl ?_
                                            refine Nrm.pick [12, 13, 0, 1, 2, 3, 14, 15, 16, 7, 8, 9] rfl rfl ?_
                                            exact hj_5 _ _ ⟨v84_4, S84_4, v84_5, S84_5, v84_6, S84_6, b14_8, hl_v84_4, hl_v84_5, hl_v84_6, rfl, rfl⟩
                                          exact T.stop
                                        exact T.stop
                                      exact T.stop
                                  exact T.stop
                                exact T.stop
                            · refine T.ef rfl rfl rfl (wanted_none rfl) (Makes.does (m_alloc ti67)) (by rintro _ _ ⟨b14_9, rfl, rfl⟩; exact upd rfl [4, 5, 6, 7, 8, 9, 10, 11, 12, 13] rfl rfl) ?_ ?_
                              · rintro _ _ ⟨b14_9, rfl, rfl⟩
                                refine T.ef rfl rfl rfl (wanted_none rfl) (Makes.does (m_callF (xs := _) rfl ok47 rfl rfl (fun w hw => impl_DoDeed.ok h84 w ((rd_sl (i := 1) rfl) w hw) ((rd_sl (i := 2) rfl) w hw) ((rd_sl (i := 3) rfl) w hw)))) (by rintro _ _ ⟨_, ⟨v84_7, S84_7, v84_8, S84_8, v84_9, S84_9, rfl, hl_v84_7, hl_v84_8, hl_v84_9, rfl⟩, rfl⟩; exact upd rfl [7, 8, 9, 10, 11, 12, 13, 14, 15, 16] rfl rfl) ?_ ?_
                                · rintro _ _ ⟨_, ⟨v84_7, S84_7, v84_8, S84_8, v84_9, S84_9, rfl, hl_v84_7, hl_v84_8, hl_v84_9, rfl⟩, rfl⟩
                                  refine T.ef rfl rfl rfl (wanted_none rfl) (Runs.does (r_move rfl)) (by rintro _ _ ⟨rfl, rfl⟩; exact upd rfl [7, 8, 9, 10, 11, 12, 13, 14, 15, 16] rfl rfl) ?_ ?_
                                  · rintro _ _ ⟨rfl, rfl⟩
                                    refine T.ef rfl rfl rfl (wanted_none rfl) (Runs.does (r_extract rfl rfl)) (by rintro _ _ ⟨rfl, rfl⟩; exact upd rfl [7, 8, 9, 10, 11, 12, 13, 14, 15, 16] rfl rfl) ?_ ?_
                                    · rintro _ _ ⟨rfl, rfl⟩
                                      refine T.ef rfl rfl rfl (wanted_none rfl) (Runs.does (r_extract rfl rfl)) (by rintro _ _ ⟨rfl, rfl⟩; exact upd rfl [7, 8, 9, 10, 11, 12, 13, 14, 15, 16] rfl rfl) ?_ ?_
                                      · rintro _ _ ⟨rfl, rfl⟩
                                        refine T.ef0 rfl rfl (wanted_none rfl) (d_storeG0 (i := 3) (cs2 := [.int .i64 t84_1, v84_7, v84_8, v84_9, .int .i64 t84_5]) ti67 rfl rfl rfl rfl rfl (Nat.le_of_ble_eq_true rfl) (lf_cons rfl (lf_cons (sl_leaf hl_v84_7) (lf_cons (sl_leaf hl_v84_8) (lf_cons (sl_leaf hl_v84_9) (lf_cons rfl lf_nil)))))) (by rintro _ _ ⟨rfl, rfl⟩; exact upd rfl [7, 8, 9, 10, 11, 12, 13, 14, 15, 16] rfl rfl) ?_ ?_
                                        · rintro _ _ ⟨rfl, rfl⟩
                                          refine T.nil ?_
                                          refine F.q rfl rfl rfl (wanted_none rfl) (r_assign rfl) ?_
                                          refine F.nil ?_
                                          cases hE_5
                                          refine Nrm.only [6, 7, 9, 12, 14, 15] rfl ?_
                                          refine Nrm.pick [12, 13, 3, 0, 1, 2, 14, 15, 16, 7, 8, 9] rfl rfl ?_
                                          exact hj_5 _ _ ⟨v84_7, S84_7, v84_8, S84_8, v84_9, S84_9, b14_9, hl_v84_7, hl_v84_8, hl_v84_9, rfl, rfl⟩
                                        exact T.stop
                                      · refine T.ef0 rfl rfl (wanted_none rfl) (d_storeG0 (i := 3) (cs2 := [.int .i64 t84_1, v84_7, v84_8, v84_9, .int .i64 t84_5]) ti67 rfl rfl rfl rfl rfl (Nat.le_of_ble_eq_true rfl) (lf_cons rfl (lf_cons (sl_leaf hl_v84_7) (lf_cons (sl_leaf hl_v84_8) (lf_cons (sl_leaf hl_v84_9) (lf_cons rfl lf_nil)))))) (by rintro _ _ ⟨rfl, rfl⟩; exact upd rfl [7, 8, 9, 10, 11, 12, 13, 14, 15, 16] rfl rfl) ?_ ?_
                                        · rintro _ _ ⟨rfl, rfl⟩
                                          refine T.ef rfl rfl rfl (wanted_none rfl) (Runs.does (r_extract rfl rfl)) (by rintro _ _ ⟨rfl, rfl⟩; exact upd rfl [7, 8, 9, 10, 11, 12, 13, 14, 15, 16] rfl rfl) ?_ ?_
                                          · rintro _ _ ⟨rfl, rfl⟩
                                            refine T.nil ?_
                                            refine F.q rfl rfl rfl (wanted_none rfl) (r_assign rfl) ?_
                                            refine F.nil ?_
                                            cases hE_5
                                            refine Nrm.only [6, 7, 9, 12, 14, 15] rfl ?_
                                            refine Nrm.pick [12, 13, 3, 0, 1, 2, 14, 15, 16, 7, 8, 9] rfl rfl ?_
                                            exact hj_5 _ _ ⟨v84_7, S84_7, v84_8, S84_8, v84_9, S84_9, b14_9, hl_v84_7, hl_v84_8, hl_v84_9, rfl, rfl⟩
                                          exact T.stop
                                        exact T.stop
                                    · refine T.ef rfl rfl rfl (wanted_none rfl) (Runs.does (r_extract rfl rfl)) (by rintro _ _ ⟨rfl, rfl⟩; exact upd rfl [7, 8, 9, 10, 11, 12, 13, 14, 15, 16] rfl rfl) ?_ ?_
                                      · rintro _ _ ⟨rfl, rfl⟩
                                        refine T.ef rfl rfl rfl (wanted_none rfl) (Runs.does (r_extract rfl rfl)) (by rintro _ _ ⟨rfl, rfl⟩; exact upd rfl [7, 8, 9, 10, 11, 12, 13, 14, 15, 16] rfl rfl) ?_ ?_
                                        · rintro _ _ ⟨rfl, rfl⟩
                                          refine T.ef0 rfl rfl (wanted_none rfl) (d_storeG0 (i := 3) (cs2 := [.int .i64 t84_1, v84_7, v84_8, v84_9, .int .i64 t84_5]) ti67 rfl rfl rfl rfl rfl (Nat.le_of_ble_eq_true rfl) (lf_cons rfl (lf_cons (sl_leaf hl_v84_7) (lf_cons (sl_leaf hl_v84_8) (lf_cons (sl_leaf hl_v84_9) (lf_cons rfl lf_nil)))))) (by rintro _ _ ⟨rfl, rfl⟩; exact upd rfl [7, 8, 9, 10, 11, 12, 13, 14, 15, 16] rfl rfl) ?_ ?_
                                          · rintro _ _ ⟨rfl, rfl⟩
                                            refine T.nil ?_
                                            refine F.q rfl rfl rfl (wanted_none rfl) (r_assign rfl) ?_
                                            refine F.nil ?_
                                            cases hE_5
                                            refine Nrm.only [6, 7, 9, 12, 14, 15] rfl ?_
                                            refine Nrm.pick [12, 13, 3, 0, 1, 2, 14, 15, 16, 7, 8, 9] rfl rfl ?_
                                            exact hj_5 _ _ ⟨v84_7, S84_7, v84_8, S84_8, v84_9, S84_9, b14_9, hl_v84_7, hl_v84_8, hl_v84_9, rfl, rfl⟩
                                          exact T.stop
                                        exact T.stop
                                      exact T.stop
                                  exact T.stop
                                exact T.stop
                              exact T.stop
                          · refine T.ef rfl rfl rfl (wanted_none rfl) (Makes.does (m_alloc ti67)) (by rintro _ _ ⟨b14_10, rfl, rfl⟩; exact upd rfl [4, 5, 6, 7, 8, 9, 10, 11, 12, 13] rfl rfl) ?_ ?_
                            · rintro _ _ ⟨b14_10, rfl, rfl⟩
                              refine T.ef rfl rfl rfl (wanted_none rfl) (qc_does (q_callF (xs := _) rfl ok46 rfl rfl (fun w hw => laws_toDeed.ok h83 w ))) (by rintro _ _ ⟨rfl, rfl⟩; exact upd rfl [4, 5, 6, 7, 8, 9, 10, 11, 12, 13] rfl rfl) ?_ ?_
                              · rintro _ _ ⟨rfl, rfl⟩
                                refine T.ef rfl rfl rfl (wanted_none rfl) (Makes.does (m_callF (xs := _) rfl ok47 rfl rfl (fun w hw => impl_DoDeed.ok h84 w ((rd_sl (i := 1) rfl) w hw) ((rd_sl (i := 2) rfl) w hw) ((rd_sl (i := 3) rfl) w hw)))) (by rintro _ _ ⟨_, ⟨v84_10, S84_10, v84_11, S84_11, v84_12, S84_12, rfl, hl_v84_10, hl_v84_11, hl_v84_12, rfl⟩, rfl⟩; exact upd rfl [7, 8, 9, 10, 11, 12, 13, 14, 15, 16] rfl rfl) ?_ ?_
                                · rintro _ _ ⟨_, ⟨v84_10, S84_10, v84_11, S84_11, v84_12, S84_12, rfl, hl_v84_10, hl_v84_11, hl_v84_12, rfl⟩, rfl⟩
                                  refine T.ef rfl rfl rfl (wanted_none rfl) (Runs.does (r_move rfl)) (by rintro _ _ ⟨rfl, rfl⟩; exact upd rfl [7, 8, 9, 10, 11, 12, 13, 14, 15, 16] rfl rfl) ?_ ?_
                                  · rintro _ _ ⟨rfl, rfl⟩
                                    refine T.ef rfl rfl rfl (wanted_none rfl) (Runs.does (r_extract rfl rfl)) (by rintro _ _ ⟨rfl, rfl⟩; exact upd rfl [7, 8, 9, 10, 11, 12, 13, 14, 15, 16] rfl rfl) ?_ ?_
                                    · rintro _ _ ⟨rfl, rfl⟩
                                      refine T.ef rfl rfl rfl (wanted_none rfl) (Runs.does (r_extract rfl rfl)) (by rintro _ _ ⟨rfl, rfl⟩; exact upd rfl [7, 8, 9, 10, 11, 12, 13, 14, 15, 16] rfl rfl) ?_ ?_
                                      · rintro _ _ ⟨rfl, rfl⟩
                                        refine T.ef0 rfl rfl (wanted_none rfl) (d_storeG0 (i := 3) (cs2 := [.int .i64 t84_1, v84_10, v84_11, v84_12, .int .i64 t84_5]) ti67 rfl rfl rfl rfl rfl (Nat.le_of_ble_eq_true rfl) (lf_cons rfl (lf_cons (sl_leaf hl_v84_10) (lf_cons (sl_leaf hl_v84_11) (lf_cons (sl_leaf hl_v84_12) (lf_cons rfl lf_nil)))))) (by rintro _ _ ⟨rfl, rfl⟩; exact upd rfl [7, 8, 9, 10, 11, 12, 13, 14, 15, 16] rfl rfl) ?_ ?_
                                        · rintro _ _ ⟨rfl, rfl⟩
                                          refine T.nil ?_
                                          refine F.q rfl rfl rfl (wanted_none rfl) (r_assign rfl) ?_
                                          refine F.nil ?_
                                          cases hE_5
                                          refine Nrm.only [6, 7, 9, 12, 14, 15] rfl ?_
                                          refine Nrm.pick [12, 13, 3, 0, 1, 2, 14, 15, 16, 7, 8, 9] rfl rfl ?_
                                          exact hj_5 _ _ ⟨v84_10, S84_10, v84_11, S84_11, v84_12, S84_12, b14_10, hl_v84_10, hl_v84_11, hl_v84_12, rfl, rfl⟩
                                        exact T.stop
                                      · refine T.ef0 rfl rfl (wanted_none rfl) (d_storeG0 (i := 3) (cs2 := [.int .i64 t84_1, v84_10, v84_11, v84_12, .int .i64 t84_5]) ti67 rfl rfl rfl rfl rfl (Nat.le_of_ble_eq_true rfl) (lf_cons rfl (lf_cons (sl_leaf hl_v84_10) (lf_cons (sl_leaf hl_v84_11) (lf_cons (sl_leaf hl_v84_12) (lf_cons rfl lf_nil)))))) (by rintro _ _ ⟨rfl, rfl⟩; exact upd rfl [7, 8, 9, 10, 11, 12, 13, 14, 15, 16] rfl rfl) ?_ ?_
                                        · rintro _ _ ⟨rfl, rfl⟩
                                          refine T.ef rfl rfl rfl (wanted_none rfl) (Runs.does (r_extract rfl rfl)) (by rintro _ _ ⟨rfl, rfl⟩; exact upd rfl [7, 8, 9, 10, 11, 12, 13, 14, 15, 16] rfl rfl) ?_ ?_
                                          · rintro _ _ ⟨rfl, rfl⟩
                                            refine T.nil ?_
                                            refine F.q rfl rfl rfl (wanted_none rfl) (r_assign rfl) ?_
                                            refine F.nil ?_
                                            cases hE_5
                                            refine Nrm.only [6, 7, 9, 12, 14, 15] rfl ?_
                                            refine Nrm.pick [12, 13, 3, 0, 1, 2, 14, 15, 16, 7, 8, 9] rfl rfl ?_
                                            exact hj_5 _ _ ⟨v84_10, S84_10, v84_11, S84_11, v84_12, S84_12, b14_10, hl_v84_10, hl_v84_11, hl_v84_12, rfl, rfl⟩
                                          exact T.stop
                                        exact T.stop
                                    · refine T.ef rfl rfl rfl (wanted_none rfl) (Runs.does (r_extract rfl rfl)) (by rintro _ _ ⟨rfl, rfl⟩; exact upd rfl [7, 8, 9, 10, 11, 12, 13, 14, 15, 16] rfl rfl) ?_ ?_
                                      · rintro _ _ ⟨rfl, rfl⟩
                                        refine T.ef rfl rfl rfl (wanted_none rfl) (Runs.does (r_extract rfl rfl)) (by rintro _ _ ⟨rfl, rfl⟩; exact upd rfl [7, 8, 9, 10, 11, 12, 13, 14, 15, 16] rfl rfl) ?_ ?_
                                        · rintro _ _ ⟨rfl, rfl⟩
                                          refine T.ef0 rfl rfl (wanted_none rfl) (d_storeG0 (i := 3) (cs2 := [.int .i64 t84_1, v84_10, v84_11, v84_12, .int .i64 t84_5]) ti67 rfl rfl rfl rfl rfl (Nat.le_of_ble_eq_true rfl) (lf_cons rfl (lf_cons (sl_leaf hl_v84_10) (lf_cons (sl_leaf hl_v84_11) (lf_cons (sl_leaf hl_v84_12) (lf_cons rfl lf_nil)))))) (by rintro _ _ ⟨rfl, rfl⟩; exact upd rfl [7, 8, 9, 10, 11, 12, 13, 14, 15, 16] rfl rfl) ?_ ?_
                                          · rintro _ _ ⟨rfl, rfl⟩
                                            refine T.nil ?_
                                            refine F.q rfl rfl rfl (wanted_none rfl) (r_assign rfl) ?_
                                            refine F.nil ?_
                                            cases hE_5
                                            refine Nrm.only [6, 7, 9, 12, 14, 15] rfl ?_
                                            refine Nrm.pick [12, 13, 3, 0, 1, 2, 14, 15, 16, 7, 8, 9] rfl rfl ?_
                                            exact hj_5 _ _ ⟨v84_10, S84_10, v84_11, S84_11, v84_12, S84_12, b14_10, hl_v84_10, hl_v84_11, hl_v84_12, rfl, rfl⟩
                                          exact T.stop
                                        exact T.stop
                                      exact T.stop
                                  exact T.stop
                                exact T.stop
                              exact T.stop
                            exact T.stop
                        · refine T.ef rfl rfl rfl (wanted_none rfl) (Makes.does (m_alloc ti67)) (by rintro _ _ ⟨b14_11, rfl, rfl⟩; exact upd rfl [1, 2, 3, 4, 5, 6, 7, 8, 9, 10] rfl rfl) ?_ ?_
                          · rintro _ _ ⟨b14_11, rfl, rfl⟩
                            refine T.ef rfl rfl rfl (wanted_none rfl) (Makes.does (m_callF (xs := _) rfl ok45 rfl rfl (fun w hw => laws_toVisit.ok h81 w ((fun _ hw => hr_a0_1.sep hw) w hw) ((fun _ hw => hr_a0_2.sep hw) w hw) ((fun _ hw => hr_a0_3.sep hw) w hw)))) (by rintro _ _ ⟨_, ⟨v81_7, S81_7, v81_8, S81_8, v81_9, S81_9, rfl, hl_v81_7, hl_v81_8, hl_v81_9, rfl⟩, rfl⟩; exact upd rfl [4, 5, 6, 7, 8, 9, 10, 11, 12, 13] rfl rfl) ?_ ?_
                            · rintro _ _ ⟨_, ⟨v81_7, S81_7, v81_8, S81_8, v81_9, S81_9, rfl, hl_v81_7, hl_v81_8, hl_v81_9, rfl⟩, rfl⟩
                              refine T.ef rfl rfl rfl (wanted_none rfl) (qc_does (q_callF (xs := _) rfl ok46 rfl rfl (fun w hw => laws_toDeed.ok h83 w ))) (by rintro _ _ ⟨rfl, rfl⟩; exact upd rfl [4, 5, 6, 7, 8, 9, 10, 11, 12, 13] rfl rfl) ?_ ?_
                              · rintro _ _ ⟨rfl, rfl⟩
                                refine T.ef rfl rfl rfl (wanted_none rfl) (Makes.does (m_callF (xs := _) rfl ok47 rfl rfl (fun w hw => impl_DoDeed.ok h84 w ((rd_sl (i := 0) rfl) w hw) ((rd_sl (i := 1) rfl) w hw) ((rd_sl (i := 2) rfl) w hw)))) (by rintro _ _ ⟨_, ⟨v84_13, S84_13, v84_14, S84_14, v84_15, S84_15, rfl, hl_v84_13, hl_v84_14, hl_v84_15, rfl⟩, rfl⟩; exact upd rfl [7, 8, 9, 10, 11, 12, 13, 14, 15, 16] rfl rfl) ?_ ?_
                                · rintro _ _ ⟨_, ⟨v84_13, S84_13, v84_14, S84_14, v84_15, S84_15, rfl, hl_v84_13, hl_v84_14, hl_v84_15, rfl⟩, rfl⟩
                                  refine T.ef rfl rfl rfl (wanted_none rfl) (Runs.does (r_move rfl)) (by rintro _ _ ⟨rfl, rfl⟩; exact upd rfl [7, 8, 9, 10, 11, 12, 13, 14, 15, 16] rfl rfl) ?_ ?_
                                  · rintro _ _ ⟨rfl, rfl⟩
                                    refine T.ef rfl rfl rfl (wanted_none rfl) (Runs.does (r_extract rfl rfl)) (by rintro _ _ ⟨rfl, rfl⟩; exact upd rfl [7, 8, 9, 10, 11, 12, 13, 14, 15, 16] rfl rfl) ?_ ?_
                                    · rintro _ _ ⟨rfl, rfl⟩
                                      refine T.ef rfl rfl rfl (wanted_none rfl) (Runs.does (r_extract rfl rfl)) (by rintro _ _ ⟨rfl, rfl⟩; exact upd rfl [7, 8, 9, 10, 11, 12, 13, 14, 15, 16] rfl rfl) ?_ ?_
                                      · rintro _ _ ⟨rfl, rfl⟩
                                        refine T.ef0 rfl rfl (wanted_none rfl) (d_storeG0 (i := 6) (cs2 := [.int .i64 t84_1, v84_13, v84_14, v84_15, .int .i64 t84_5]) ti67 rfl rfl rfl rfl rfl (Nat.le_of_ble_eq_true rfl) (lf_cons rfl (lf_cons (sl_leaf hl_v84_13) (lf_cons (sl_leaf hl_v84_14) (lf_cons (sl_leaf hl_v84_15) (lf_cons rfl lf_nil)))))) (by rintro _ _ ⟨rfl, rfl⟩; exact upd rfl [7, 8, 9, 10, 11, 12, 13, 14, 15, 16] rfl rfl) ?_ ?_
                                        · rintro _ _ ⟨rfl, rfl⟩
                                          refine T.nil ?_
                                          refine F.q rfl rfl rfl (wanted_none rfl) (r_assign rfl) ?_
                                          refine F.nil ?_
                                          cases hE_5
                                          refine Nrm.only [6, 7, 9, 12, 14, 15] rfl ?_
                                          refine Nrm.pick [12, 13, 6, 0, 1, 2, 14, 15, 16, 7, 8, 9] rfl rfl ?_
                                          exact hj_5 _ _ ⟨v84_13, S84_13, v84_14, S84_14, v84_15, S84_15, b14_11, hl_v84_13, hl_v84_14, hl_v84_15, rfl, rfl⟩
                                        exact T.stop
                                      · refine T.ef0 rfl rfl (wanted_none rfl) (d_storeG0 (i := 6) (cs2 := [.int .i64 t84_1, v84_13, v84_14, v84_15, .int .i64 t84_5]) ti67 rfl rfl rfl rfl rfl (Nat.le_of_ble_eq_true rfl) (lf_cons rfl (lf_cons (sl_leaf hl_v84_13) (lf_cons (sl_leaf hl_v84_14) (lf_cons (sl_leaf hl_v84_15) (lf_cons rfl lf_nil)))))) (by rintro _ _ ⟨rfl, rfl⟩; exact upd rfl [7, 8, 9, 10, 11, 12, 13, 14, 15, 16] rfl rfl) ?_ ?_
                                        · rintro _ _ ⟨rfl, rfl⟩
                                          refine T.ef rfl rfl rfl (wanted_none rfl) (Runs.does (r_extract rfl rfl)) (by rintro _ _ ⟨rfl, rfl⟩; exact upd rfl [7, 8, 9, 10, 11, 12, 13, 14, 15, 16] rfl rfl) ?_ ?_
                                          · rintro _ _ ⟨rfl, rfl⟩
                                            refine T.nil ?_
                                            refine F.q rfl rfl rfl (wanted_none rfl) (r_assign rfl) ?_
                                            refine F.nil ?_
                                            cases hE_5
                                            refine Nrm.only [6, 7, 9, 12, 14, 15] rfl ?_
                                            refine Nrm.pick [12, 13, 6, 0, 1, 2, 14, 15, 16, 7, 8, 9] rfl rfl ?_
                                            exact hj_5 _ _ ⟨v84_13, S84_13, v84_14, S84_14, v84_15, S84_15, b14_11, hl_v84_13, hl_v84_14, hl_v84_15, rfl, rfl⟩
                                          exact T.stop
                                        exact T.stop
                                    · refine T.ef rfl rfl rfl (wanted_none rfl) (Runs.does (r_extract rfl rfl)) (by rintro _ _ ⟨rfl, rfl⟩; exact upd rfl [7, 8, 9, 10, 11, 12, 13, 14, 15, 16] rfl rfl) ?_ ?_
                                      · rintro _ _ ⟨rfl, rfl⟩
                                        refine T.ef rfl rfl rfl (wanted_none rfl) (Runs.does (r_extract rfl rfl)) (by rintro _ _ ⟨rfl, rfl⟩; exact upd rfl [7, 8, 9, 10, 11, 12, 13, 14, 15, 16] rfl rfl) ?_ ?_
                                        · rintro _ _ ⟨rfl, rfl⟩
                                          refine T.ef0 rfl rfl (wanted_none rfl) (d_storeG0 (i := 6) (cs2 := [.int .i64 t84_1, v84_13, v84_14, v84_15, .int .i64 t84_5]) ti67 rfl rfl rfl rfl rfl (Nat.le_of_ble_eq_true rfl) (lf_cons rfl (lf_cons (sl_leaf hl_v84_13) (lf_cons (sl_leaf hl_v84_14) (lf_cons (sl_leaf hl_v84_15) (lf_cons rfl lf_nil)))))) (by rintro _ _ ⟨rfl, rfl⟩; exact upd rfl [7, 8, 9, 10, 11, 12, 13, 14, 15, 16] rfl rfl) ?_ ?_
                                          · rintro _ _ ⟨rfl, rfl⟩
                                            refine T.nil ?_
                                            refine F.q rfl rfl rfl (wanted_none rfl) (r_assign rfl) ?_
                                            refine F.nil ?_
                                            cases hE_5
                                            refine Nrm.only [6, 7, 9, 12, 14, 15] rfl ?_
                                            refine Nrm.pick [12, 13, 6, 0, 1, 2, 14, 15, 16, 7, 8, 9] rfl rfl ?_
                                            exact hj_5 _ _ ⟨v84_13, S84_13, v84_14, S84_14, v84_15, S84_15, b14_11, hl_v84_13, hl_v84_14, hl_v84_15, rfl, rfl⟩
                                          exact T.stop
                                        exact T.stop
                                      exact T.stop
                                  exact T.stop
                                exact T.stop
                              exact T.stop
                            exact T.stop
                          exact T.stop
              · rcases Bool.eq_false_or_eq_true (decide (t54_1 < 0)) with g57 | g57
                · replace hE_4 := if_tt g57 hE_4
                  refine Tri.reg (l := [0, 1, 2, 3, 4, 5, 6, 7, 8, 9, 10, 11, 12]) rfl ?_
                  refine F.q rfl rfl rfl (wanted_none rfl) (r_move rfl) ?_
                  refine F.q rfl rfl rfl (wanted_none rfl) (r_lss rfl rfl) ?_
                  refine F.q rfl rfl rfl (wanted_none rfl) (r_move rfl) ?_
                  refine F.sk rfl rfl rfl (wf rfl rfl rfl g57) ?_
                  refine F.sk rfl rfl rfl (wf rfl rfl rfl g57) ?_
                  refine F.sk rfl rfl rfl (wf rfl rfl rfl g57) ?_
                  refine F.sk rfl rfl rfl (wf rfl rfl rfl g57) ?_
                  refine F.q rfl rfl rfl (wanted_none rfl) (r_pick rfl rfl g57) ?_
                  refine F.q rfl rfl rfl (wanted_none rfl) (r_move rfl) ?_
                  refine F.sk rfl rfl rfl (wf rfl rfl rfl rfl) ?_
                  refine F.sk rfl rfl rfl (wf rfl rfl rfl rfl) ?_
                  refine F.sk rfl rfl rfl (wf rfl rfl rfl rfl) ?_
                  refine F.q rfl rfl rfl (wanted_none rfl) (r_pick rfl rfl rfl) ?_
                  refine F.nil ?_
                  cases hE_4
                  refine Nrm.only [2, 3, 6, 7, 9, 67] rfl ?_
                  refine Nrm.pick [7, 8, 9, 10, 11, 12, 13, 14, 15, 16] rfl rfl ?_
                  exact hj_4 _ _ ⟨rfl, rfl⟩
                · replace hE_4 := if_ff g57 hE_4
                  obtain ⟨t60, h60, hE_4⟩ := bind_some hE_4
                  rcases Bool.eq_false_or_eq_true (!t60) with g63 | g63
                  · replace hE_4 := if_tt g63 hE_4
                    refine Tri.reg (l := [0, 1, 2, 3, 4, 5, 6, 7, 8, 9, 10, 11, 12]) rfl ?_
                    refine F.q rfl rfl rfl (wanted_none rfl) (r_move rfl) ?_
                    refine F.q rfl rfl rfl (wanted_none rfl) (r_lss rfl rfl) ?_
                    refine F.q rfl rfl rfl (wanted_none rfl) (r_move rfl) ?_
                    refine F.q rfl rfl rfl (wg rfl rfl rfl g57) (r_loadA ta67 ti67 rfl rfl (fun w hw => (box_cells (i := 10) rfl w hw))) ?_
                    refine F.q rfl rfl rfl (wg rfl rfl rfl g57) (r_loadA ta67 ti67 rfl rfl (fun w hw => (box_cells (i := 9) rfl w hw))) ?_
                    refine F.qc rfl rfl rfl (wg rfl rfl rfl g57) (q_callF (xs := _) rfl ok48 rfl rfl (fun w hw => laws_eqVisit.ok h60 w ((rd_sl (i := 14) rfl) w hw) ((rd_sl (i := 15) rfl) w hw) ((rd_sl (i := 16) rfl) w hw) ((rd_sl (i := 11) rfl) w hw) ((rd_sl (i := 12) rfl) w hw) ((rd_sl (i := 13) rfl) w hw))) ?_
                    refine F.q rfl rfl rfl (wg rfl rfl rfl g57) (r_not rfl) ?_
                    refine F.q rfl rfl rfl (wanted_none rfl) (r_pickf rfl rfl g57) ?_
                    refine F.q rfl rfl rfl (wanted_none rfl) (r_move rfl) ?_
                    refine F.sk rfl rfl rfl (wf rfl rfl rfl g63) ?_
                    refine F.sk rfl rfl rfl (wf rfl rfl rfl g63) ?_
                    refine F.sk rfl rfl rfl (wf rfl rfl rfl g63) ?_
                    refine F.q rfl rfl rfl (wanted_none rfl) (r_pick rfl rfl g63) ?_
                    refine F.nil ?_
                    cases hE_4
                    refine Nrm.only [2, 3, 6, 7, 9, 67] rfl ?_
                    refine Nrm.pick [7, 8, 9, 10, 11, 12, 13, 14, 15, 16] rfl rfl ?_
                    exact hj_4 _ _ ⟨rfl, rfl⟩
                  · replace hE_4 := if_ff g63 hE_4
                    refine Tri.reg (l := [0, 1, 2, 3, 4, 5, 6, 7, 8, 9, 10, 11, 12]) rfl ?_
                    refine F.q rfl rfl rfl (wanted_none rfl) (r_move rfl) ?_
                    refine F.q rfl rfl rfl (wanted_none rfl) (r_lss rfl rfl) ?_
                    refine F.q rfl rfl rfl (wanted_none rfl) (r_move rfl) ?_
                    refine F.q rfl rfl rfl (wg rfl rfl rfl g57) (r_loadA ta67 ti67 rfl rfl (fun w hw => (box_cells (i := 10) rfl w hw))) ?_
                    refine F.q rfl rfl rfl (wg rfl rfl rfl g57) (r_loadA ta67 ti67 rfl rfl (fun w hw => (box_cells (i := 9) rfl w hw))) ?_
                    refine F.qc rfl rfl rfl (wg rfl rfl rfl g57) (q_callF (xs := _) rfl ok48 rfl rfl (fun w hw => laws_eqVisit.ok h60 w ((rd_sl (i := 14) rfl) w hw) ((rd_sl (i := 15) rfl) w hw) ((rd_sl (i := 16) rfl) w hw) ((rd_sl (i := 11) rfl) w hw) ((rd_sl (i := 12) rfl) w hw) ((rd_sl (i := 13) rfl) w hw))) ?_
                    refine F.q rfl rfl rfl (wg rfl rfl rfl g57) (r_not rfl) ?_
                    refine F.q rfl rfl rfl (wanted_none rfl) (r_pickf rfl rfl g57) ?_
                    refine F.q rfl rfl rfl (wanted_none rfl) (r_move rfl) ?_
                    refine F.q rfl rfl rfl (wg rfl rfl rfl g63) (r_move rfl) ?_
                    refine F.q rfl rfl rfl (wg rfl rfl rfl g63) (r_move rfl) ?_
                    refine F.q rfl rfl rfl (wg rfl rfl rfl g63) (r_neqB Try.underlying4 rfl rfl) ?_
                    refine F.q rfl rfl rfl (wanted_none rfl) (r_pickf rfl rfl g63) ?_
                    refine F.nil ?_
                    cases hE_4
                    refine Nrm.only [2, 3, 6, 7, 9, 67] rfl ?_
                    refine Nrm.pick [7, 8, 9, 10, 11, 12, 13, 14, 15, 16] rfl rfl ?_
                    exact hj_4 _ _ ⟨rfl, rfl⟩
        · obtain ⟨t40, h40, hE_3⟩ := bind_some hE_3
          rcases Bool.eq_false_or_eq_true (!t40) with g42 | g42
          · replace hE_3 := if_tt g42 hE_3
            refine Tri.reg (l := [0, 1, 2, 3, 4, 5, 6, 7, 8]) rfl ?_
            refine F.q rfl rfl rfl (wanted_none rfl) (r_loadA ta67 ti67 rfl rfl (fun w hw => (box_cells (i := 4) rfl w hw))) ?_
            refine F.q rfl rfl rfl (wanted_none rfl) (r_loadA ta67 ti67 rfl rfl (fun w hw => (box_cells (i := 3) rfl w hw))) ?_
            refine F.qc rfl rfl rfl (wanted_none rfl) (q_callF (xs := _) rfl ok48 rfl rfl (fun w hw => laws_eqVisit.ok h40 w ((rd_sl (i := 5) rfl) w hw) ((rd_sl (i := 6) rfl) w hw) ((rd_sl (i := 7) rfl) w hw) ((rd_sl (i := 11) rfl) w hw) ((rd_sl (i := 12) rfl) w hw) ((rd_sl (i := 13) rfl) w hw))) ?_
            refine F.q rfl rfl rfl (wanted_none rfl) (r_not rfl) ?_
            refine F.q rfl rfl rfl (wanted_none rfl) (r_move rfl) ?_
            refine F.sk rfl rfl rfl (wf rfl rfl rfl g42) ?_
            refine F.sk rfl rfl rfl (wf rfl rfl rfl g42) ?_
            refine F.sk rfl rfl rfl (wf rfl rfl rfl g42) ?_
            refine F.q rfl rfl rfl (wanted_none rfl) (r_pick rfl rfl g42) ?_
            refine F.nil ?_
            cases hE_3
            refine Nrm.only [2, 3, 6, 7, 8, 9, 10, 46] rfl ?_
            refine Nrm.pick [0, 1, 2, 3, 4, 8, 9, 10, 11, 12, 13, 5, 6, 7] rfl rfl ?_
            exact hj_3 _ _ ⟨rfl, rfl⟩
          · replace hE_3 := if_ff g42 hE_3
            refine Tri.reg (l := [0, 1, 2, 3, 4, 5, 6, 7, 8]) rfl ?_
            refine F.q rfl rfl rfl (wanted_none rfl) (r_loadA ta67 ti67 rfl rfl (fun w hw => (box_cells (i := 4) rfl w hw))) ?_
            refine F.q rfl rfl rfl (wanted_none rfl) (r_loadA ta67 ti67 rfl rfl (fun w hw => (box_cells (i := 3) rfl w hw))) ?_
            refine F.qc rfl rfl rfl (wanted_none rfl) (q_callF (xs := _) rfl ok48 rfl rfl (fun w hw => laws_eqVisit.ok h40 w ((rd_sl (i := 5) rfl) w hw) ((rd_sl (i := 6) rfl) w hw) ((rd_sl (i := 7) rfl) w hw) ((rd_sl (i := 11) rfl) w hw) ((rd_sl (i := 12) rfl) w hw) ((rd_sl (i := 13) rfl) w hw))) ?_
            refine F.q rfl rfl rfl (wanted_none rfl) (r_not rfl) ?_
            refine F.q rfl rfl rfl (wanted_none rfl) (r_move rfl) ?_
            refine F.q rfl rfl rfl (wg rfl rfl rfl g42) (r_move rfl) ?_
            refine F.q rfl rfl rfl (wg rfl rfl rfl g42) (r_move rfl) ?_
            refine F.q rfl rfl rfl (wg rfl rfl rfl g42) (r_neqB Try.underlying4 rfl rfl) ?_
            refine F.q rfl rfl rfl (wanted_none rfl) (r_pickf rfl rfl g42) ?_
            refine F.nil ?_
            cases hE_3
            refine Nrm.only [2, 3, 6, 7, 8, 9, 10, 46] rfl ?_
            refine Nrm.pick [0, 1, 2, 3, 4, 8, 9, 10, 11, 12, 13, 5, 6, 7] rfl rfl ?_
            exact hj_3 _ _ ⟨rfl, rfl⟩
      · obtain ⟨⟨t34_1, t34_2, t34_3, t34_4⟩, h34, hE_2⟩ := bind_some hE_2
        obtain ⟨⟨t35_1, t35_2, t35_3, t35_4, t35_5, t35_6⟩, h35, hE_2⟩ := bind_some hE_2
        refine Tri.drawT mixedT Sep.up [0, 1, 2, 3, 4, 5, 6, 7, 8] [9] (.q 0 (.q 1 (.q 2 (.alt 3 (.alt 4 (.alt 5 (.alt 6 (.alt 7 (.alt 8 .nil .stop) .stop) (.alt 7 (.alt 6 (.alt 8 .nil .stop) (.alt 8 (.alt 6 .nil .stop) .stop)) .stop)) (.alt 6 (.alt 5 (.alt 7 (.alt 8 .nil .stop) .stop) (.alt 7 (.alt 5 (.alt 8 .nil .stop) .stop) .stop)) (.alt 7 (.alt 5 (.alt 6 (.alt 8 .nil .stop) (.alt 8 (.alt 6 .nil .stop) .stop)) (.alt 6 (.alt 5 (.alt 8 .nil .stop) .stop) .stop)) .stop))) (.alt 7 (.alt 4 (.alt 5 (.alt 6 (.alt 8 .nil .stop) (.alt 8 (.alt 6 .nil .stop) .stop)) (.alt 6 (.alt 5 (.alt 8 .nil .stop) .stop) .stop)) .stop) .stop)) (.alt 7 (.alt 3 (.alt 4 (.alt 5 (.alt 6 (.alt 8 .nil .stop) (.alt 8 (.alt 6 .nil .stop) .stop)) (.alt 6 (.alt 5 (.alt 8 .nil .stop) .stop) .stop)) .stop) .stop) .stop))))) (by kernel_rfl) ?_
        refine T.q rfl rfl rfl (wanted_none rfl) (r_loadA ta67 ti67 rfl rfl (fun w hw => (box_cells (i := 0) rfl w hw))) ?_
        refine T.q rfl rfl rfl (wanted_none rfl) (r_loadA ta64 ti64 rfl rfl (fun w hw => (box_cells (i := 4) rfl w hw))) ?_
        refine T.qc rfl rfl rfl (wanted_none rfl) (q_callF (xs := _) rfl ok46 rfl rfl (fun w hw => laws_toDeed.ok h34 w )) ?_
        refine T.ef rfl rfl rfl (wanted_none rfl) (Makes.does (m_callF (xs := _) rfl ok47 rfl rfl (fun w hw => impl_DoDeed.ok h35 w ((rd_sl (i := 1) rfl) w hw) ((rd_sl (i := 2) rfl) w hw) ((rd_sl (i := 3) rfl) w hw)))) (by rintro _ _ ⟨_, ⟨v35_4, S35_4, v35_5, S35_5, v35_6, S35_6, rfl, hl_v35_4, hl_v35_5, hl_v35_6, rfl⟩, rfl⟩; exact upd rfl [3, 4, 5, 6, 7, 8, 9, 10, 11, 12] rfl rfl) ?_ ?_
        · rintro _ _ ⟨_, ⟨v35_4, S35_4, v35_5, S35_5, v35_6, S35_6, rfl, hl_v35_4, hl_v35_5, hl_v35_6, rfl⟩, rfl⟩
          refine T.ef rfl rfl rfl (wanted_none rfl) (Runs.does (r_move rfl)) (by rintro _ _ ⟨rfl, rfl⟩; exact upd rfl [3, 4, 5, 6, 7, 8, 9, 10, 11, 12] rfl rfl) ?_ ?_
          · rintro _ _ ⟨rfl, rfl⟩
            refine T.ef rfl rfl rfl (wanted_none rfl) (Runs.does (r_extract rfl rfl)) (by rintro _ _ ⟨rfl, rfl⟩; exact upd rfl [3, 4, 5, 6, 7, 8, 9, 10, 11, 12] rfl rfl) ?_ ?_
            · rintro _ _ ⟨rfl, rfl⟩
              refine T.ef rfl rfl rfl (wanted_none rfl) (Runs.does (r_extract rfl rfl)) (by rintro _ _ ⟨rfl, rfl⟩; exact upd rfl [3, 4, 5, 6, 7, 8, 9, 10, 11, 12] rfl rfl) ?_ ?_
              · rintro _ _ ⟨rfl, rfl⟩
                refine T.ef rfl rfl rfl (wanted_none rfl) (Makes.does (m_alloc ti67)) (by rintro _ _ ⟨b9_3, rfl, rfl⟩; exact upd rfl [4, 5, 6, 7, 8, 9, 10, 11, 12, 13] rfl rfl) ?_ ?_
                · rintro _ _ ⟨b9_3, rfl, rfl⟩
                  refine T.ef0 rfl rfl (wanted_none rfl) (d_storeG0 (i := 0) (cs2 := [.int .i64 t35_1, v35_4, v35_5, v35_6, .int .i64 t35_5]) ti67 rfl rfl rfl rfl rfl (Nat.le_of_ble_eq_true rfl) (lf_cons rfl (lf_cons (sl_leaf hl_v35_4) (lf_cons (sl_leaf hl_v35_5) (lf_cons (sl_leaf hl_v35_6) (lf_cons rfl lf_nil)))))) (by rintro _ _ ⟨rfl, rfl⟩; exact upd rfl [4, 5, 6, 7, 8, 9, 10, 11, 12, 13] rfl rfl) ?_ ?_
                  · rintro _ _ ⟨rfl, rfl⟩
                    refine T.nil ?_
                    refine F.q rfl rfl rfl (wanted_none rfl) (r_assign rfl) ?_
                    refine F.nil ?_
                    cases hE_2
                    refine Nrm.only [2, 3, 6, 7, 8, 9, 10] rfl ?_
                    refine Nrm.pick [4, 8, 9, 10, 0, 1, 2, 3, 5, 6, 7, 11, 12, 13] rfl rfl ?_
                    exact hj_2 _ _ ⟨v35_4, S35_4, v35_5, S35_5, v35_6, S35_6, b9_3, hl_v35_4, hl_v35_5, hl_v35_6, rfl, rfl⟩
                  exact T.stop
                exact T.stop
              · refine T.ef rfl rfl rfl (wanted_none rfl) (Makes.does (m_alloc ti67)) (by rintro _ _ ⟨b9_4, rfl, rfl⟩; exact upd rfl [4, 5, 6, 7, 8, 9, 10, 11, 12, 13] rfl rfl) ?_ ?_
                · rintro _ _ ⟨b9_4, rfl, rfl⟩
                  refine T.ef rfl rfl rfl (wanted_none rfl) (Runs.does (r_extract rfl rfl)) (by rintro _ _ ⟨rfl, rfl⟩; exact upd rfl [4, 5, 6, 7, 8, 9, 10, 11, 12, 13] rfl rfl) ?_ ?_
                  · rintro _ _ ⟨rfl, rfl⟩
                    refine T.ef0 rfl rfl (wanted_none rfl) (d_storeG0 (i := 0) (cs2 := [.int .i64 t35_1, v35_4, v35_5, v35_6, .int .i64 t35_5]) ti67 rfl rfl rfl rfl rfl (Nat.le_of_ble_eq_true rfl) (lf_cons rfl (lf_cons (sl_leaf hl_v35_4) (lf_cons (sl_leaf hl_v35_5) (lf_cons (sl_leaf hl_v35_6) (lf_cons rfl lf_nil)))))) (by rintro _ _ ⟨rfl, rfl⟩; exact upd rfl [4, 5, 6, 7, 8, 9, 10, 11, 12, 13] rfl rfl) ?_ ?_
                    · rintro _ _ ⟨rfl, rfl⟩
                      refine T.nil ?_
                      refine F.q rfl rfl rfl (wanted_none rfl) (r_assign rfl) ?_
                      refine F.nil ?_
                      cases hE_2
                      refine Nrm.only [2, 3, 6, 7, 8, 9, 10] rfl ?_
                      refine Nrm.pick [4, 8, 9, 10, 0, 1, 2, 3, 5, 6, 7, 11, 12, 13] rfl rfl ?_
                      exact hj_2 _ _ ⟨v35_4, S35_4, v35_5, S35_5, v35_6, S35_6, b9_4, hl_v35_4, hl_v35_5, hl_v35_6, rfl, rfl⟩
                    exact T.stop
                  · refine T.ef0 rfl rfl (wanted_none rfl) (d_storeG0 (i := 0) (cs2 := [.int .i64 t35_1, v35_4, v35_5, v35_6, .int .i64 t35_5]) ti67 rfl rfl rfl rfl rfl (Nat.le_of_ble_eq_true rfl) (lf_cons rfl (lf_cons (sl_leaf hl_v35_4) (lf_cons (sl_leaf hl_v35_5) (lf_cons (sl_leaf hl_v35_6) (lf_cons rfl lf_nil)))))) (by rintro _ _ ⟨rfl, rfl⟩; exact upd rfl [4, 5, 6, 7, 8, 9, 10, 11, 12, 13] rfl rfl) ?_ ?_
                    · rintro _ _ ⟨rfl, rfl⟩
                      refine T.ef rfl rfl rfl (wanted_none rfl) (Runs.does (r_extract rfl rfl)) (by rintro _ _ ⟨rfl, rfl⟩; exact upd rfl [4, 5, 6, 7, 8, 9, 10, 11, 12, 13] rfl rfl) ?_ ?_
                      · rintro _ _ ⟨rfl, rfl⟩
                        refine T.nil ?_
                        refine F.q rfl rfl rfl (wanted_none rfl) (r_assign rfl) ?_
                        refine F.nil ?_
                        cases hE_2
                        refine Nrm.only [2, 3, 6, 7, 8, 9, 10] rfl ?_
                        refine Nrm.pick [4, 8, 9, 10, 0, 1, 2, 3, 5, 6, 7, 11, 12, 13] rfl rfl ?_
                        exact hj_2 _ _ ⟨v35_4, S35_4, v35_5, S35_5, v35_6, S35_6, b9_4, hl_v35_4, hl_v35_5, hl_v35_6, rfl, rfl⟩
                      exact T.stop
                    exact T.stop
                exact T.stop
            · refine T.ef rfl rfl rfl (wanted_none rfl) (Runs.does (r_extract rfl rfl)) (by rintro _ _ ⟨rfl, rfl⟩; exact upd rfl [3, 4, 5, 6, 7, 8, 9, 10, 11, 12] rfl rfl) ?_ ?_
              · rintro _ _ ⟨rfl, rfl⟩
                refine T.ef rfl rfl rfl (wanted_none rfl) (Runs.does (r_extract rfl rfl)) (by rintro _ _ ⟨rfl, rfl⟩; exact upd rfl [3, 4, 5, 6, 7, 8, 9, 10, 11, 12] rfl rfl) ?_ ?_
                · rintro _ _ ⟨rfl, rfl⟩
                  refine T.ef rfl rfl rfl (wanted_none rfl) (Makes.does (m_alloc ti67)) (by rintro _ _ ⟨b9_5, rfl, rfl⟩; exact upd rfl [4, 5, 6, 7, 8, 9, 10, 11, 12, 13] rfl rfl) ?_ ?_
                  · rintro _ _ ⟨b9_5, rfl, rfl⟩
                    refine T.ef0 rfl rfl (wanted_none rfl) (d_storeG0 (i := 0) (cs2 := [.int .i64 t35_1, v35_4, v35_5, v35_6, .int .i64 t35_5]) ti67 rfl rfl rfl rfl rfl (Nat.le_of_ble_eq_true rfl) (lf_cons rfl (lf_cons (sl_leaf hl_v35_4) (lf_cons (sl_leaf hl_v35_5) (lf_cons (sl_leaf hl_v35_6) (lf_cons rfl lf_nil)))))) (by rintro _ _ ⟨rfl, rfl⟩; exact upd rfl [4, 5, 6, 7, 8, 9, 10, 11, 12, 13] rfl rfl) ?_ ?_
                    · rintro _ _ ⟨rfl, rfl⟩
                      refine T.nil ?_
                      refine F.q rfl rfl rfl (wanted_none rfl) (r_assign rfl) ?_
                      refine F.nil ?_
                      cases hE_2
                      refine Nrm.only [2, 3, 6, 7, 8, 9, 10] rfl ?_
                      refine Nrm.pick [4, 8, 9, 10, 0, 1, 2, 3, 5, 6, 7, 11, 12, 13] rfl rfl ?_
                      exact hj_2 _ _ ⟨v35_4, S35_4, v35_5, S35_5, v35_6, S35_6, b9_5, hl_v35_4, hl_v35_5, hl_v35_6, rfl, rfl⟩
                    exact T.stop
                  exact T.stop
                · refine T.ef rfl rfl rfl (wanted_none rfl) (Makes.does (m_alloc ti67)) (by rintro _ _ ⟨b9_6, rfl, rfl⟩; exact upd rfl [4, 5, 6, 7, 8, 9, 10, 11, 12, 13] rfl rfl) ?_ ?_
                  · rintro _ _ ⟨b9_6, rfl, rfl⟩
                    refine T.ef rfl rfl rfl (wanted_none rfl) (Runs.does (r_extract rfl rfl)) (by rintro _ _ ⟨rfl, rfl⟩; exact upd rfl [4, 5, 6, 7, 8, 9, 10, 11, 12, 13] rfl rfl) ?_ ?_
                    · rintro _ _ ⟨rfl, rfl⟩
                      refine T.ef0 rfl rfl (wanted_none rfl) (d_storeG0 (i := 0) (cs2 := [.int .i64 t35_1, v35_4, v35_5, v35_6, .int .i64 t35_5]) ti67 rfl rfl rfl rfl rfl (Nat.le_of_ble_eq_true rfl) (lf_cons rfl (lf_cons (sl_leaf hl_v35_4) (lf_cons (sl_leaf hl_v35_5) (lf_cons (sl_leaf hl_v35_6) (lf_cons rfl lf_nil)))))) (by rintro _ _ ⟨rfl, rfl⟩; exact upd rfl [4, 5, 6, 7, 8, 9, 10, 11, 12, 13] rfl rfl) ?_ ?_
                      · rintro _ _ ⟨rfl, rfl⟩
                        refine T.nil ?_
                        refine F.q rfl rfl rfl (wanted_none rfl) (r_assign rfl) ?_
                        refine F.nil ?_
                        cases hE_2
                        refine Nrm.only [2, 3, 6, 7, 8, 9, 10] rfl ?_
                        refine Nrm.pick [4, 8, 9, 10, 0, 1, 2, 3, 5, 6, 7, 11, 12, 13] rfl rfl ?_
                        exact hj_2 _ _ ⟨v35_4, S35_4, v35_5, S35_5, v35_6, S35_6, b9_6, hl_v35_4, hl_v35_5, hl_v35_6, rfl, rfl⟩
                      exact T.stop
                    exact T.stop
                  exact T.stop
              · refine T.ef rfl rfl rfl (wanted_none rfl) (Makes.does (m_alloc ti67)) (by rintro _ _ ⟨b9_7, rfl, rfl⟩; exact upd rfl [4, 5, 6, 7, 8, 9, 10, 11, 12, 13] rfl rfl) ?_ ?_
                · rintro _ _ ⟨b9_7, rfl, rfl⟩
                  refine T.ef rfl rfl rfl (wanted_none rfl) (Runs.does (r_extract rfl rfl)) (by rintro _ _ ⟨rfl, rfl⟩; exact upd rfl [4, 5, 6, 7, 8, 9, 10, 11, 12, 13] rfl rfl) ?_ ?_
                  · rintro _ _ ⟨rfl, rfl⟩
                    refine T.ef rfl rfl rfl (wanted_none rfl) (Runs.does (r_extract rfl rfl)) (by rintro _ _ ⟨rfl, rfl⟩; exact upd rfl [4, 5, 6, 7, 8, 9, 10, 11, 12, 13] rfl rfl) ?_ ?_
                    · rintro _ _ ⟨rfl, rfl⟩
                      refine T.ef0 rfl rfl (wanted_none rfl) (d_storeG0 (i := 0) (cs2 := [.int .i64 t35_1, v35_4, v35_5, v35_6, .int .i64 t35_5]) ti67 rfl rfl rfl rfl rfl (Nat.le_of_ble_eq_true rfl) (lf_cons rfl (lf_cons (sl_leaf hl_v35_4) (lf_cons (sl_leaf hl_v35_5) (lf_cons (sl_leaf hl_v35_6) (lf_cons rfl lf_nil)))))) (by rintro _ _ ⟨rfl, rfl⟩; exact upd rfl [4, 5, 6, 7, 8, 9, 10, 11, 12, 13] rfl rfl) ?_ ?_
                      · rintro _ _ ⟨rfl, rfl⟩
                        refine T.nil ?_
                        refine F.q rfl rfl rfl (wanted_none rfl) (r_assign rfl) ?_
                        refine F.nil ?_
                        cases hE_2
                        refine Nrm.only [2, 3, 6, 7, 8, 9, 10] rfl ?_
                        refine Nrm.pick [4, 8, 9, 10, 0, 1, 2, 3, 5, 6, 7, 11, 12, 13] rfl rfl ?_
                        exact hj_2 _ _ ⟨v35_4, S35_4, v35_5, S35_5, v35_6, S35_6, b9_7, hl_v35_4, hl_v35_5, hl_v35_6, rfl, rfl⟩
                      exact T.stop
                    · refine T.ef0 rfl rfl (wanted_none rfl) (d_storeG0 (i := 0) (cs2 := [.int .i64 t35_1, v35_4, v35_5, v35_6, .int .i64 t35_5]) ti67 rfl rfl rfl rfl rfl (Nat.le_of_ble_eq_true rfl) (lf_cons rfl (lf_cons (sl_leaf hl_v35_4) (lf_cons (sl_leaf hl_v35_5) (lf_cons (sl_leaf hl_v35_6) (lf_cons rfl lf_nil)))))) (by rintro _ _ ⟨rfl, rfl⟩; exact upd rfl [4, 5, 6, 7, 8, 9, 10, 11, 12, 13] rfl rfl) ?_ ?_
                      · rintro _ _ ⟨rfl, rfl⟩
                        refine T.ef rfl rfl rfl (wanted_none rfl) (Runs.does (r_extract rfl rfl)) (by rintro _ _ ⟨rfl, rfl⟩; exact upd rfl [4, 5, 6, 7, 8, 9, 10, 11, 12, 13] rfl rfl) ?_ ?_
                        · rintro _ _ ⟨rfl, rfl⟩
                          refine T.nil ?_
                          refine F.q rfl rfl rfl (wanted_none rfl) (r_assign rfl) ?_
                          refine F.nil ?_
                          cases hE_2
                          refine Nrm.only [2, 3, 6, 7, 8, 9, 10] rfl ?_
                          refine Nrm.pick [4, 8, 9, 10, 0, 1, 2, 3, 5, 6, 7, 11, 12, 13] rfl rfl ?_
                          exact hj_2 _ _ ⟨v35_4, S35_4, v35_5, S35_5, v35_6, S35_6, b9_7, hl_v35_4, hl_v35_5, hl_v35_6, rfl, rfl⟩
                        exact T.stop
                      exact T.stop
                  · refine T.ef rfl rfl rfl (wanted_none rfl) (Runs.does (r_extract rfl rfl)) (by rintro _ _ ⟨rfl, rfl⟩; exact upd rfl [4, 5, 6, 7, 8, 9, 10, 11, 12, 13] rfl rfl) ?_ ?_
                    · rintro _ _ ⟨rfl, rfl⟩
                      refine T.ef rfl rfl rfl (wanted_none rfl) (Runs.does (r_extract rfl rfl)) (by rintro _ _ ⟨rfl, rfl⟩; exact upd rfl [4, 5, 6, 7, 8, 9, 10, 11, 12, 13] rfl rfl) ?_ ?_
                      · rintro _ _ ⟨rfl, rfl⟩
                        refine T.ef0 rfl rfl (wanted_none rfl) (d_storeG0 (i := 0) (cs2 := [.int .i64 t35_1, v35_4, v35_5, v35_6, .int .i64 t35_5]) ti67 rfl rfl rfl rfl rfl (Nat.le_of_ble_eq_true rfl) (lf_cons rfl (lf_cons (sl_leaf hl_v35_4) (lf_cons (sl_leaf hl_v35_5) (lf_cons (sl_leaf hl_v35_6) (lf_cons rfl lf_nil)))))) (by rintro _ _ ⟨rfl, rfl⟩; exact upd rfl [4, 5, 6, 7, 8, 9, 10, 11, 12, 13] rfl rfl) ?_ ?_
                        · rintro _ _ ⟨rfl, rfl⟩
                          refine T.nil ?_
                          refine F.q rfl rfl rfl (wanted_none rfl) (r_assign rfl) ?_
                          refine F.nil ?_
                          cases hE_2
                          refine Nrm.only [2, 3, 6, 7, 8, 9, 10] rfl ?_
                          refine Nrm.pick [4, 8, 9, 10, 0, 1, 2, 3, 5, 6, 7, 11, 12, 13] rfl rfl ?_
                          exact hj_2 _ _ ⟨v35_4, S35_4, v35_5, S35_5, v35_6, S35_6, b9_7, hl_v35_4, hl_v35_5, hl_v35_6, rfl, rfl⟩
                        exact T.stop
                      exact T.stop
                    exact T.stop
                exact T.stop
          · refine T.ef rfl rfl rfl (wanted_none rfl) (Makes.does (m_alloc ti67)) (by rintro _ _ ⟨b9_8, rfl, rfl⟩; exact upd rfl [4, 5, 6, 7, 8, 9, 10, 11, 12, 13] rfl rfl) ?_ ?_
            · rintro _ _ ⟨b9_8, rfl, rfl⟩
              refine T.ef rfl rfl rfl (wanted_none rfl) (Runs.does (r_move rfl)) (by rintro _ _ ⟨rfl, rfl⟩; exact upd rfl [4, 5, 6, 7, 8, 9, 10, 11, 12, 13] rfl rfl) ?_ ?_
              · rintro _ _ ⟨rfl, rfl⟩
                refine T.ef rfl rfl rfl (wanted_none rfl) (Runs.does (r_extract rfl rfl)) (by rintro _ _ ⟨rfl, rfl⟩; exact upd rfl [4, 5, 6, 7, 8, 9, 10, 11, 12, 13] rfl rfl) ?_ ?_
                · rintro _ _ ⟨rfl, rfl⟩
                  refine T.ef rfl rfl rfl (wanted_none rfl) (Runs.does (r_extract rfl rfl)) (by rintro _ _ ⟨rfl, rfl⟩; exact upd rfl [4, 5, 6, 7, 8, 9, 10, 11, 12, 13] rfl rfl) ?_ ?_
                  · rintro _ _ ⟨rfl, rfl⟩
                    refine T.ef0 rfl rfl (wanted_none rfl) (d_storeG0 (i := 0) (cs2 := [.int .i64 t35_1, v35_4, v35_5, v35_6, .int .i64 t35_5]) ti67 rfl rfl rfl rfl rfl (Nat.le_of_ble_eq_true rfl) (lf_cons rfl (lf_cons (sl_leaf hl_v35_4) (lf_cons (sl_leaf hl_v35_5) (lf_cons (sl_leaf hl_v35_6) (lf_cons rfl lf_nil)))))) (by rintro _ _ ⟨rfl, rfl⟩; exact upd rfl [4, 5, 6, 7, 8, 9, 10, 11, 12, 13] rfl rfl) ?_ ?_
                    · rintro _ _ ⟨rfl, rfl⟩
                      refine T.nil ?_
                      refine F.q rfl rfl rfl (wanted_none rfl) (r_assign rfl) ?_
                      refine F.nil ?_
                      cases hE_2
                      refine Nrm.only [2, 3, 6, 7, 8, 9, 10] rfl ?_
                      refine Nrm.pick [4, 8, 9, 10, 0, 1, 2, 3, 5, 6, 7, 11, 12, 13] rfl rfl ?_
                      exact hj_2 _ _ ⟨v35_4, S35_4, v35_5, S35_5, v35_6, S35_6, b9_8, hl_v35_4, hl_v35_5, hl_v35_6, rfl, rfl⟩
                    exact T.stop
                  · refine T.ef0 rfl rfl (wanted_none rfl) (d_storeG0 (i := 0) (cs2 := [.int .i64 t35_1, v35_4, v35_5, v35_6, .int .i64 t35_5]) ti67 rfl rfl rfl rfl rfl (Nat.le_of_ble_eq_true rfl) (lf_cons rfl (lf_cons (sl_leaf hl_v35_4) (lf_cons (sl_leaf hl_v35_5) (lf_cons (sl_leaf hl_v35_6) (lf_cons rfl lf_nil)))))) (by rintro _ _ ⟨rfl, rfl⟩; exact upd rfl [4, 5, 6, 7, 8, 9, 10, 11, 12, 13] rfl rfl) ?_ ?_
                    · rintro _ _ ⟨rfl, rfl⟩
                      refine T.ef rfl rfl rfl (wanted_none rfl) (Runs.does (r_extract rfl rfl)) (by rintro _ _ ⟨rfl, rfl⟩; exact upd rfl [4, 5, 6, 7, 8, 9, 10, 11, 12, 13] rfl rfl) ?_ ?_
                      · rintro _ _ ⟨rfl, rfl⟩
                        refine T.nil ?_
                        refine F.q rfl rfl rfl (wanted_none rfl) (r_assign rfl) ?_
                        refine F.nil ?_
                        cases hE_2
                        refine Nrm.only [2, 3, 6, 7, 8, 9, 10] rfl ?_
                        refine Nrm.pick [4, 8, 9, 10, 0, 1, 2, 3, 5, 6, 7, 11, 12, 13] rfl rfl ?_
                        exact hj_2 _ _ ⟨v35_4, S35_4, v35_5, S35_5, v35_6, S35_6, b9_8, hl_v35_4, hl_v35_5, hl_v35_6, rfl, rfl⟩
                      exact T.stop
                    exact T.stop
                · refine T.ef rfl rfl rfl (wanted_none rfl) (Runs.does (r_extract rfl rfl)) (by rintro _ _ ⟨rfl, rfl⟩; exact upd rfl [4, 5, 6, 7, 8, 9, 10, 11, 12, 13] rfl rfl) ?_ ?_
                  · rintro _ _ ⟨rfl, rfl⟩
                    refine T.ef rfl rfl rfl (wanted_none rfl) (Runs.does (r_extract rfl rfl)) (by rintro _ _ ⟨rfl, rfl⟩; exact upd rfl [4, 5, 6, 7, 8, 9, 10, 11, 12, 13] rfl rfl) ?_ ?_
                    · rintro _ _ ⟨rfl, rfl⟩
                      refine T.ef0 rfl rfl (wanted_none rfl) (d_storeG0 (i := 0) (cs2 := [.int .i64 t35_1, v35_4, v35_5, v35_6, .int .i64 t35_5]) ti67 rfl rfl rfl rfl rfl (Nat.le_of_ble_eq_true rfl) (lf_cons rfl (lf_cons (sl_leaf hl_v35_4) (lf_cons (sl_leaf hl_v35_5) (lf_cons (sl_leaf hl_v35_6) (lf_cons rfl lf_nil)))))) (by rintro _ _ ⟨rfl, rfl⟩; exact upd rfl [4, 5, 6, 7, 8, 9, 10, 11, 12, 13] rfl rfl) ?_ ?_
                      · rintro _ _ ⟨rfl, rfl⟩
                        refine T.nil ?_
                        refine F.q rfl rfl rfl (wanted_none rfl) (r_assign rfl) ?_
                        refine F.nil ?_
                        cases hE_2
                        refine Nrm.only [2, 3, 6, 7, 8, 9, 10] rfl ?_
                        refine Nrm.pick [4, 8, 9, 10, 0, 1, 2, 3, 5, 6, 7, 11, 12, 13] rfl rfl ?_
                        exact hj_2 _ _ ⟨v35_4, S35_4, v35_5, S35_5, v35_6, S35_6, b9_8, hl_v35_4, hl_v35_5, hl_v35_6, rfl, rfl⟩
                      exact T.stop
                    exact T.stop
                  exact T.stop
              exact T.stop
            exact T.stop
        · refine T.ef rfl rfl rfl (wanted_none rfl) (Makes.does (m_alloc ti67)) (by rintro _ _ ⟨b9_9, rfl, rfl⟩; exact upd rfl [1, 2, 3, 4, 5, 6, 7, 8, 9, 10] rfl rfl) ?_ ?_
          · rintro _ _ ⟨b9_9, rfl, rfl⟩
            refine T.ef rfl rfl rfl (wanted_none rfl) (Makes.does (m_callF (xs := _) rfl ok47 rfl rfl (fun w hw => impl_DoDeed.ok h35 w ((rd_sl (i := 2) rfl) w hw) ((rd_sl (i := 3) rfl) w hw) ((rd_sl (i := 4) rfl) w hw)))) (by rintro _ _ ⟨_, ⟨v35_7, S35_7, v35_8, S35_8, v35_9, S35_9, rfl, hl_v35_7, hl_v35_8, hl_v35_9, rfl⟩, rfl⟩; exact upd rfl [4, 5, 6, 7, 8, 9, 10, 11, 12, 13] rfl rfl) ?_ ?_
            · rintro _ _ ⟨_, ⟨v35_7, S35_7, v35_8, S35_8, v35_9, S35_9, rfl, hl_v35_7, hl_v35_8, hl_v35_9, rfl⟩, rfl⟩
              refine T.ef rfl rfl rfl (wanted_none rfl) (Runs.does (r_move rfl)) (by rintro _ _ ⟨rfl, rfl⟩; exact upd rfl [4, 5, 6, 7, 8, 9, 10, 11, 12, 13] rfl rfl) ?_ ?_
              · rintro _ _ ⟨rfl, rfl⟩
                refine T.ef rfl rfl rfl (wanted_none rfl) (Runs.does (r_extract rfl rfl)) (by rintro _ _ ⟨rfl, rfl⟩; exact upd rfl [4, 5, 6, 7, 8, 9, 10, 11, 12, 13] rfl rfl) ?_ ?_
                · rintro _ _ ⟨rfl, rfl⟩
                  refine T.ef rfl rfl rfl (wanted_none rfl) (Runs.does (r_extract rfl rfl)) (by rintro _ _ ⟨rfl, rfl⟩; exact upd rfl [4, 5, 6, 7, 8, 9, 10, 11, 12, 13] rfl rfl) ?_ ?_
                  · rintro _ _ ⟨rfl, rfl⟩
                    refine T.ef0 rfl rfl (wanted_none rfl) (d_storeG0 (i := 3) (cs2 := [.int .i64 t35_1, v35_7, v35_8, v35_9, .int .i64 t35_5]) ti67 rfl rfl rfl rfl rfl (Nat.le_of_ble_eq_true rfl) (lf_cons rfl (lf_cons (sl_leaf hl_v35_7) (lf_cons (sl_leaf hl_v35_8) (lf_cons (sl_leaf hl_v35_9) (lf_cons rfl lf_nil)))))) (by rintro _ _ ⟨rfl, rfl⟩; exact upd rfl [4, 5, 6, 7, 8, 9, 10, 11, 12, 13] rfl rfl) ?_ ?_
                    · rintro _ _ ⟨rfl, rfl⟩
                      refine T.nil ?_
                      refine F.q rfl rfl rfl (wanted_none rfl) (r_assign rfl) ?_
                      refine F.nil ?_
                      cases hE_2
                      refine Nrm.only [2, 3, 6, 7, 8, 9, 10] rfl ?_
                      refine Nrm.pick [4, 8, 9, 10, 3, 0, 1, 2, 5, 6, 7, 11, 12, 13] rfl rfl ?_
                      exact hj_2 _ _ ⟨v35_7, S35_7, v35_8, S35_8, v35_9, S35_9, b9_9, hl_v35_7, hl_v35_8, hl_v35_9, rfl, rfl⟩
                    exact T.stop
                  · refine T.ef0 rfl rfl (wanted_none rfl) (d_storeG0 (i := 3) (cs2 := [.int .i64 t35_1, v35_7, v35_8, v35_9, .int .i64 t35_5]) ti67 rfl rfl rfl rfl rfl (Nat.le_of_ble_eq_true rfl) (lf_cons rfl (lf_cons (sl_leaf hl_v35_7) (lf_cons (sl_leaf hl_v35_8) (lf_cons (sl_leaf hl_v35_9) (lf_cons rfl lf_nil)))))) (by rintro _ _ ⟨rfl, rfl⟩; exact upd rfl [4, 5, 6, 7, 8, 9, 10, 11, 12, 13] rfl rfl) ?_ ?_
                    · rintro _ _ ⟨rfl, rfl⟩
                      refine T.ef rfl rfl rfl (wanted_none rfl) (Runs.does (r_extract rfl rfl)) (by rintro _ _ ⟨rfl, rfl⟩; exact upd rfl [4, 5, 6, 7, 8, 9, 10, 11, 12, 13] rfl rfl) ?_ ?_
                      · rintro _ _ ⟨rfl, rfl⟩
                        refine T.nil ?_
                        refine F.q rfl rfl rfl (wanted_none rfl) (r_assign rfl) ?_
                        refine F.nil ?_
                        cases hE_2
                        refine Nrm.only [2, 3, 6, 7, 8, 9, 10] rfl ?_
                        refine Nrm.pick [4, 8, 9, 10, 3, 0, 1, 2, 5, 6, 7, 11, 12, 13] rfl rfl ?_
                        exact hj_2 _ _ ⟨v35_7, S35_7, v35_8, S35_8, v35_9, S35_9, b9_9, hl_v35_7, hl_v35_8, hl_v35_9, rfl, rfl⟩
                      exact T.stop
                    exact T.stop
                · refine T.ef rfl rfl rfl (wanted_none rfl) (Runs.does (r_extract rfl rfl)) (by rintro _ _ ⟨rfl, rfl⟩; exact upd rfl [4, 5, 6, 7, 8, 9, 10, 11, 12, 13] rfl rfl) ?_ ?_
                  · rintro _ _ ⟨rfl, rfl⟩
                    refine T.ef rfl rfl rfl (wanted_none rfl) (Runs.does (r_extract rfl rfl)) (by rintro _ _ ⟨rfl, rfl⟩; exact upd rfl [4, 5, 6, 7, 8, 9, 10, 11, 12, 13] rfl rfl) ?_ ?_
                    · rintro _ _ ⟨rfl, rfl⟩
                      refine T.ef0 rfl rfl (wanted_none rfl) (d_storeG0 (i := 3) (cs2 := [.int .i64 t35_1, v35_7, v35_8, v35_9, .int .i64 t35_5]) ti67 rfl rfl rfl rfl rfl (Nat.le_of_ble_eq_true rfl) (lf_cons rfl (lf_cons (sl_leaf hl_v35_7) (lf_cons (sl_leaf hl_v35_8) (lf_cons (sl_leaf hl_v35_9) (lf_cons rfl lf_nil)))))) (by rintro _ _ ⟨rfl, rfl⟩; exact upd rfl [4, 5, 6, 7, 8, 9, 10, 11, 12, 13] rfl rfl) ?_ ?_
                      · rintro _ _ ⟨rfl, rfl⟩
                        refine T.nil ?_
                        refine F.q rfl rfl rfl (wanted_none rfl) (r_assign rfl) ?_
                        refine F.nil ?_
                        cases hE_2
                        refine Nrm.only [2, 3, 6, 7, 8, 9, 10] rfl ?_
                        refine Nrm.pick [4, 8, 9, 10, 3, 0, 1, 2, 5, 6, 7, 11, 12, 13] rfl rfl ?_
                        exact hj_2 _ _ ⟨v35_7, S35_7, v35_8, S35_8, v35_9, S35_9, b9_9, hl_v35_7, hl_v35_8, hl_v35_9, rfl, rfl⟩
                      exact T.stop
                    exact T.stop
                  exact T.stop
              exact T.stop
            exact T.stop
          exact T.stop
    · obtain ⟨⟨t23_1, t23_2, t23_3, t23_4, t23_5⟩, h23, hE_1⟩ := bind_some hE_1
      obtain ⟨⟨t25_1, t25_2, t25_3, t25_4⟩, h25, hE_1⟩ := bind_some hE_1
      obtain ⟨⟨t26_1, t26_2, t26_3, t26_4, t26_5, t26_6⟩, h26, hE_1⟩ := bind_some hE_1
      refine Tri.drawT mixedT Sep.up [0, 2, 1, 3, 4, 5, 6, 7, 8, 9] [10] (.q 0 (.q 2 (.alt 1 (.alt 3 (.alt 4 (.alt 5 (.alt 6 (.alt 7 (.alt 8 (.alt 9 .nil .stop) .stop) (.alt 8 (.alt 7 (.alt 9 .nil .stop) (.alt 9 (.alt 7 .nil .stop) .stop)) .stop)) (.alt 7 (.alt 6 (.alt 8 (.alt 9 .nil .stop) .stop) (.alt 8 (.alt 6 (.alt 9 .nil .stop) .stop) .stop)) (.alt 8 (.alt 6 (.alt 7 (.alt 9 .nil .stop) (.alt 9 (.alt 7 .nil .stop) .stop)) (.alt 7 (.alt 6 (.alt 9 .nil .stop) .stop) .stop)) .stop))) (.alt 8 (.alt 5 (.alt 6 (.alt 7 (.alt 9 .nil .stop) (.alt 9 (.alt 7 .nil .stop) .stop)) (.alt 7 (.alt 6 (.alt 9 .nil .stop) .stop) .stop)) .stop) .stop)) (.alt 8 (.alt 4 (.alt 5 (.alt 6 (.alt 7 (.alt 9 .nil .stop) (.alt 9 (.alt 7 .nil .stop) .stop)) (.alt 7 (.alt 6 (.alt 9 .nil .stop) .stop) .stop)) .stop) .stop) .stop)) (.alt 8 (.alt 3 (.alt 4 (.alt 5 (.alt 6 (.alt 7 (.alt 9 .nil .stop) (.alt 9 (.alt 7 .nil .stop) .stop)) (.alt 7 (.alt 6 (.alt 9 .nil .stop) .stop) .stop)) .stop) .stop) .stop) .stop)) (.alt 8 (.alt 1 (.alt 3 (.alt 4 (.alt 5 (.alt 6 (.alt 7 (.alt 9 .nil .stop) (.alt 9 (.alt 7 .nil .stop) .stop)) (.alt 7 (.alt 6 (.alt 9 .nil .stop) .stop) .stop)) .stop) .stop) .stop) .stop) .stop)))) (by kernel_rfl) ?_
      refine T.q rfl rfl rfl (wanted_none rfl) (r_loadA ta62 ti62 rfl rfl (fun w hw => (box_cells (i := 1) rfl w hw))) ?_
      refine T.q rfl rfl rfl (wanted_none rfl) (r_loadA ta64 ti64 rfl rfl (fun w hw => (box_cells (i := 0) rfl w hw))) ?_
      refine T.ef rfl rfl rfl (wanted_none rfl) (Makes.does (m_callF (xs := _) rfl ok45 rfl rfl (fun w hw => laws_toVisit.ok h23 w ((fun _ hw => hr_a0_1.sep hw) w hw) ((fun _ hw => hr_a0_2.sep hw) w hw) ((fun _ hw => hr_a0_3.sep hw) w hw)))) (by rintro _ _ ⟨_, ⟨v23_4, S23_4, v23_5, S23_5, v23_6, S23_6, rfl, hl_v23_4, hl_v23_5, hl_v23_6, rfl⟩, rfl⟩; exact upd rfl [3, 4] rfl rfl) ?_ ?_
      · rintro _ _ ⟨_, ⟨v23_4, S23_4, v23_5, S23_5, v23_6, S23_6, rfl, hl_v23_4, hl_v23_5, hl_v23_6, rfl⟩, rfl⟩
        refine T.ef rfl rfl rfl (wanted_none rfl) (qc_does (q_callF (xs := _) rfl ok46 rfl rfl (fun w hw => laws_toDeed.ok h25 w ))) (by rintro _ _ ⟨rfl, rfl⟩; exact upd rfl [3, 4] rfl rfl) ?_ ?_
        · rintro _ _ ⟨rfl, rfl⟩
          refine T.ef rfl rfl rfl (wanted_none rfl) (Makes.does (m_callF (xs := _) rfl ok44 rfl rfl (fun w hw => spec_DoDeed.ok h26 w ((rd_sl (i := 0) rfl) w hw) ((rd_sl (i := 1) rfl) w hw) ((rd_sl (i := 2) rfl) w hw)))) (by rintro _ _ ⟨_, ⟨v26_4, S26_4, v26_5, S26_5, v26_6, S26_6, rfl, hl_v26_4, hl_v26_5, hl_v26_6, rfl⟩, rfl⟩; exact upd rfl [6, 7] rfl rfl) ?_ ?_
          · rintro _ _ ⟨_, ⟨v26_4, S26_4, v26_5, S26_5, v26_6, S26_6, rfl, hl_v26_4, hl_v26_5, hl_v26_6, rfl⟩, rfl⟩
            refine T.ef rfl rfl rfl (wanted_none rfl) (Runs.does (r_move rfl)) (by rintro _ _ ⟨rfl, rfl⟩; exact upd rfl [6, 7] rfl rfl) ?_ ?_
            · rintro _ _ ⟨rfl, rfl⟩
              refine T.ef rfl rfl rfl (wanted_none rfl) (Runs.does (r_extract rfl rfl)) (by rintro _ _ ⟨rfl, rfl⟩; exact upd rfl [6, 7] rfl rfl) ?_ ?_
              · rintro _ _ ⟨rfl, rfl⟩
                refine T.ef rfl rfl rfl (wanted_none rfl) (Runs.does (r_extract rfl rfl)) (by rintro _ _ ⟨rfl, rfl⟩; exact upd rfl [6, 7] rfl rfl) ?_ ?_
                · rintro _ _ ⟨rfl, rfl⟩
                  refine T.ef rfl rfl rfl (wanted_none rfl) (Makes.does (m_alloc ti67)) (by rintro _ _ ⟨b6_3, rfl, rfl⟩; exact upd rfl [7, 8] rfl rfl) ?_ ?_
                  · rintro _ _ ⟨b6_3, rfl, rfl⟩
                    refine T.ef0 rfl rfl (wanted_none rfl) (d_storeG0 (i := 0) (cs2 := [.int .i64 t26_1, v26_4, v26_5, v26_6, .int .i64 t26_5]) ti67 rfl rfl rfl rfl rfl (Nat.le_of_ble_eq_true rfl) (lf_cons rfl (lf_cons (sl_leaf hl_v26_4) (lf_cons (sl_leaf hl_v26_5) (lf_cons (sl_leaf hl_v26_6) (lf_cons rfl lf_nil)))))) (by rintro _ _ ⟨rfl, rfl⟩; exact upd rfl [7, 8] rfl rfl) ?_ ?_
                    · rintro _ _ ⟨rfl, rfl⟩
                      refine T.nil ?_
                      refine F.q rfl rfl rfl (wanted_none rfl) (r_assign rfl) ?_
                      refine F.nil ?_
                      cases hE_1
                      refine Nrm.only [2, 3, 6, 7] rfl ?_
                      refine Nrm.pick [7, 8, 0, 1, 2, 3] rfl rfl ?_
                      exact hj_1 _ _ ⟨v26_4, S26_4, v26_5, S26_5, v26_6, S26_6, b6_3, hl_v26_4, hl_v26_5, hl_v26_6, rfl, rfl⟩
                    exact T.stop
                  exact T.stop
                · refine T.ef rfl rfl rfl (wanted_none rfl) (Makes.does (m_alloc ti67)) (by rintro _ _ ⟨b6_4, rfl, rfl⟩; exact upd rfl [7, 8] rfl rfl) ?_ ?_
                  · rintro _ _ ⟨b6_4, rfl, rfl⟩
                    refine T.ef rfl rfl rfl (wanted_none rfl) (Runs.does (r_extract rfl rfl)) (by rintro _ _ ⟨rfl, rfl⟩; exact upd rfl [7, 8] rfl rfl) ?_ ?_
                    · rintro _ _ ⟨rfl, rfl⟩
                      refine T.ef0 rfl rfl (wanted_none rfl) (d_storeG0 (i := 0) (cs2 := [.int .i64 t26_1, v26_4, v26_5, v26_6, .int .i64 t26_5]) ti67 rfl rfl rfl rfl rfl (Nat.le_of_ble_eq_true rfl) (lf_cons rfl (lf_cons (sl_leaf hl_v26_4) (lf_cons (sl_leaf hl_v26_5) (lf_cons (sl_leaf hl_v26_6) (lf_cons rfl lf_nil)))))) (by rintro _ _ ⟨rfl, rfl⟩; exact upd rfl [7, 8] rfl rfl) ?_ ?_
                      · rintro _ _ ⟨rfl, rfl⟩
                        refine T.nil ?_
                        refine F.q rfl rfl rfl (wanted_none rfl) (r_assign rfl) ?_
                        refine F.nil ?_
                        cases hE_1
                        refine Nrm.only [2, 3, 6, 7] rfl ?_
                        refine Nrm.pick [7, 8, 0, 1, 2, 3] rfl rfl ?_
                        exact hj_1 _ _ ⟨v26_4, S26_4, v26_5, S26_5, v26_6, S26_6, b6_4, hl_v26_4, hl_v26_5, hl_v26_6, rfl, rfl⟩
                      exact T.stop
                    · refine T.ef0 rfl rfl (wanted_none rfl) (d_storeG0 (i := 0) (cs2 := [.int .i64 t26_1, v26_4, v26_5, v26_6, .int .i64 t26_5]) ti67 rfl rfl rfl rfl rfl (Nat.le_of_ble_eq_true rfl) (lf_cons rfl (lf_cons (sl_leaf hl_v26_4) (lf_cons (sl_leaf hl_v26_5) (lf_cons (sl_leaf hl_v26_6) (lf_cons rfl lf_nil)))))) (by rintro _ _ ⟨rfl, rfl⟩; exact upd rfl [7, 8] rfl rfl) ?_ ?_
                      · rintro _ _ ⟨rfl, rfl⟩
                        refine T.ef rfl rfl rfl (wanted_none rfl) (Runs.does (r_extract rfl rfl)) (by rintro _ _ ⟨rfl, rfl⟩; exact upd rfl [7, 8] rfl rfl) ?_ ?_
                        · rintro _ _ ⟨rfl, rfl⟩
                          refine T.nil ?_
                          refine F.q rfl rfl rfl (wanted_none rfl) (r_assign rfl) ?_
                          refine F.nil ?_
                          cases hE_1
                          refine Nrm.only [2, 3, 6, 7] rfl ?_
                          refine Nrm.pick [7, 8, 0, 1, 2, 3] rfl rfl ?_
                          exact hj_1 _ _ ⟨v26_4, S26_4, v26_5, S26_5, v26_6, S26_6, b6_4, hl_v26_4, hl_v26_5, hl_v26_6, rfl, rfl⟩
                        exact T.stop
                      exact T.stop
                  exact T.stop
              · refine T.ef rfl rfl rfl (wanted_none rfl) (Runs.does (r_extract rfl rfl)) (by rintro _ _ ⟨rfl, rfl⟩; exact upd rfl [6, 7] rfl rfl) ?_ ?_
                · rintro _ _ ⟨rfl, rfl⟩
                  refine T.ef rfl rfl rfl (wanted_none rfl) (Runs.does (r_extract rfl rfl)) (by rintro _ _ ⟨rfl, rfl⟩; exact upd rfl [6, 7] rfl rfl) ?_ ?_
                  · rintro _ _ ⟨rfl, rfl⟩
                    refine T.ef rfl rfl rfl (wanted_none rfl) (Makes.does (m_alloc ti67)) (by rintro _ _ ⟨b6_5, rfl, rfl⟩; exact upd rfl [7, 8] rfl rfl) ?_ ?_
                    · rintro _ _ ⟨b6_5, rfl, rfl⟩
                      refine T.ef0 rfl rfl (wanted_none rfl) (d_storeG0 (i := 0) (cs2 := [.int .i64 t26_1, v26_4, v26_5, v26_6, .int .i64 t26_5]) ti67 rfl rfl rfl rfl rfl (Nat.le_of_ble_eq_true rfl) (lf_cons rfl (lf_cons (sl_leaf hl_v26_4) (lf_cons (sl_leaf hl_v26_5) (lf_cons (sl_leaf hl_v26_6) (lf_cons rfl lf_nil)))))) (by rintro _ _ ⟨rfl, rfl⟩; exact upd rfl [7, 8] rfl rfl) ?_ ?_
                      · rintro _ _ ⟨rfl, rfl⟩
                        refine T.nil ?_
                        refine F.q rfl rfl rfl (wanted_none rfl) (r_assign rfl) ?_
                        refine F.nil ?_
                        cases hE_1
                        refine Nrm.only [2, 3, 6, 7] rfl ?_
                        refine Nrm.pick [7, 8, 0, 1, 2, 3] rfl rfl ?_
                        exact hj_1 _ _ ⟨v26_4, S26_4, v26_5, S26_5, v26_6, S26_6, b6_5, hl_v26_4, hl_v26_5, hl_v26_6, rfl, rfl⟩
                      exact T.stop
                    exact T.stop
                  · refine T.ef rfl rfl rfl (wanted_none rfl) (Makes.does (m_alloc ti67)) (by rintro _ _ ⟨b6_6, rfl, rfl⟩; exact upd rfl [7, 8] rfl rfl) ?_ ?_
                    · rintro _ _ ⟨b6_6, rfl, rfl⟩
                      refine T.ef rfl rfl rfl (wanted_none rfl) (Runs.does (r_extract rfl rfl)) (by rintro _ _ ⟨rfl, rfl⟩; exact upd rfl [7, 8] rfl rfl) ?_ ?_
                      · rintro _ _ ⟨rfl, rfl⟩
                        refine T.ef0 rfl rfl (wanted_none rfl) (d_storeG0 (i := 0) (cs2 := [.int .i64 t26_1, v26_4, v26_5, v26_6, .int .i64 t26_5]) ti67 rfl rfl rfl rfl rfl (Nat.le_of_ble_eq_true rfl) (lf_cons rfl (lf_cons (sl_leaf hl_v26_4) (lf_cons (sl_leaf hl_v26_5) (lf_cons (sl_leaf hl_v26_6) (lf_cons rfl lf_nil)))))) (by rintro _ _ ⟨rfl, rfl⟩; exact upd rfl [7, 8] rfl rfl) ?_ ?_
                        · rintro _ _ ⟨rfl, rfl⟩
                          refine T.nil ?_
                          refine F.q rfl rfl rfl (wanted_none rfl) (r_assign rfl) ?_
                          refine F.nil ?_
                          cases hE_1
                          refine Nrm.only [2, 3, 6, 7] rfl ?_
                          refine Nrm.pick [7, 8, 0, 1, 2, 3] rfl rfl ?_
                          exact hj_1 _ _ ⟨v26_4, S26_4, v26_5, S26_5, v26_6, S26_6, b6_6, hl_v26_4, hl_v26_5, hl_v26_6, rfl, rfl⟩
                        exact T.stop
                      exact T.stop
                    exact T.stop
                · refine T.ef rfl rfl rfl (wanted_none rfl) (Makes.does (m_alloc ti67)) (by rintro _ _ ⟨b6_7, rfl, rfl⟩; exact upd rfl [7, 8] rfl rfl) ?_ ?_
                  · rintro _ _ ⟨b6_7, rfl, rfl⟩
                    refine T.ef rfl rfl rfl (wanted_none rfl) (Runs.does (r_extract rfl rfl)) (by rintro _ _ ⟨rfl, rfl⟩; exact upd rfl [7, 8] rfl rfl) ?_ ?_
                    · rintro _ _ ⟨rfl, rfl⟩
                      refine T.ef rfl rfl rfl (wanted_none rfl) (Runs.does (r_extract rfl rfl)) (by rintro _ _ ⟨rfl, rfl⟩; exact upd rfl [7, 8] rfl rfl) ?_ ?_
                      · rintro _ _ ⟨rfl, rfl⟩
                        refine T.ef0 rfl rfl (wanted_none rfl) (d_storeG0 (i := 0) (cs2 := [.int .i64 t26_1, v26_4, v26_5, v26_6, .int .i64 t26_5]) ti67 rfl rfl rfl rfl rfl (Nat.le_of_ble_eq_true rfl) (lf_cons rfl (lf_cons (sl_leaf hl_v26_4) (lf_cons (sl_leaf hl_v26_5) (lf_cons (sl_leaf hl_v26_6) (lf_cons rfl lf_nil)))))) (by rintro _ _ ⟨rfl, rfl⟩; exact upd rfl [7, 8] rfl rfl) ?_ ?_
                        · rintro _ _ ⟨rfl, rfl⟩
                          refine T.nil ?_
                          refine F.q rfl rfl rfl (wanted_none rfl) (r_assign rfl) ?_
                          refine F.nil ?_
                          cases hE_1
                          refine Nrm.only [2, 3, 6, 7] rfl ?_
                          refine Nrm.pick [7, 8, 0, 1, 2, 3] rfl rfl ?_
                          exact hj_1 _ _ ⟨v26_4, S26_4, v26_5, S26_5, v26_6, S26_6, b6_7, hl_v26_4, hl_v26_5, hl_v26_6, rfl, rfl⟩
                        exact T.stop
                      · refine T.ef0 rfl rfl (wanted_none rfl) (d_storeG0 (i := 0) (cs2 := [.int .i64 t26_1, v26_4, v26_5, v26_6, .int .i64 t26_5]) ti67 rfl rfl rfl rfl rfl (Nat.le_of_ble_eq_true rfl) (lf_cons rfl (lf_cons (sl_leaf hl_v26_4) (lf_cons (sl_leaf hl_v26_5) (lf_cons (sl_leaf hl_v26_6) (lf_cons rfl lf_nil)))))) (by rintro _ _ ⟨rfl, rfl⟩; exact upd rfl [7, 8] rfl rfl) ?_ ?_
                        · rintro _ _ ⟨rfl, rfl⟩
                          refine T.ef rfl rfl rfl (wanted_none rfl) (Runs.does (r_extract rfl rfl)) (by rintro _ _ ⟨rfl, rfl⟩; exact upd rfl [7, 8] rfl rfl) ?_ ?_
                          · rintro _ _ ⟨rfl, rfl⟩
                            refine T.nil ?_
                            refine F.q rfl rfl rfl (wanted_none rfl) (r_assign rfl) ?_
                            refine F.nil ?_
                            cases hE_1
                            refine Nrm.only [2, 3, 6, 7] rfl ?_
                            refine Nrm.pick [7, 8, 0, 1, 2, 3] rfl rfl ?_
                            exact hj_1 _ _ ⟨v26_4, S26_4, v26_5, S26_5, v26_6, S26_6, b6_7, hl_v26_4, hl_v26_5, hl_v26_6, rfl, rfl⟩
                          exact T.stop
                        exact T.stop
                    · refine T.ef rfl rfl rfl (wanted_none rfl) (Runs.does (r_extract rfl rfl)) (by rintro _ _ ⟨rfl, rfl⟩; exact upd rfl [7, 8] rfl rfl) ?_ ?_
                      · rintro _ _ ⟨rfl, rfl⟩
                        refine T.ef rfl rfl rfl (wanted_none rfl) (Runs.does (r_extract rfl rfl)) (by rintro _ _ ⟨rfl, rfl⟩; exact upd rfl [7, 8] rfl rfl) ?_ ?_
                        · rintro _ _ ⟨rfl, rfl⟩
                          refine T.ef0 rfl rfl (wanted_none rfl) (d_storeG0 (i := 0) (cs2 := [.int .i64 t26_1, v26_4, v26_5, v26_6, .int .i64 t26_5]) ti67 rfl rfl rfl rfl rfl (Nat.le_of_ble_eq_true rfl) (lf_cons rfl (lf_cons (sl_leaf hl_v26_4) (lf_cons (sl_leaf hl_v26_5) (lf_cons (sl_leaf hl_v26_6) (lf_cons rfl lf_nil)))))) (by rintro _ _ ⟨rfl, rfl⟩; exact upd rfl [7, 8] rfl rfl) ?_ ?_
                          · rintro _ _ ⟨rfl, rfl⟩
                            refine T.nil ?_
                            refine F.q rfl rfl rfl (wanted_none rfl) (r_assign rfl) ?_
                            refine F.nil ?_
                            cases hE_1
                            refine Nrm.only [2, 3, 6, 7] rfl ?_
                            refine Nrm.pick [7, 8, 0, 1, 2, 3] rfl rfl ?_
                            exact hj_1 _ _ ⟨v26_4, S26_4, v26_5, S26_5, v26_6, S26_6, b6_7, hl_v26_4, hl_v26_5, hl_v26_6, rfl, rfl⟩
                          exact T.stop
                        exact T.stop
                      exact T.stop
                  exact T.stop
            · refine T.ef rfl rfl rfl (wanted_none rfl) (Makes.does (m_alloc ti67)) (by rintro _ _ ⟨b6_8, rfl, rfl⟩; exact upd rfl [7, 8] rfl rfl) ?_ ?_
              · rintro _ _ ⟨b6_8, rfl, rfl⟩
                refine T.ef rfl rfl rfl (wanted_none rfl) (Runs.does (r_move rfl)) (by rintro _ _ ⟨rfl, rfl⟩; exact upd rfl [7, 8] rfl rfl) ?_ ?_
                · rintro _ _ ⟨rfl, rfl⟩
                  refine T.ef rfl rfl rfl (wanted_none rfl) (Runs.does (r_extract rfl rfl)) (by rintro _ _ ⟨rfl, rfl⟩; exact upd rfl [7, 8] rfl rfl) ?_ ?_
                  · rintro _ _ ⟨rfl, rfl⟩
                    refine T.ef rfl rfl rfl (wanted_none rfl) (Runs.does (r_extract rfl rfl)) (by rintro _ _ ⟨rfl, rfl⟩; exact upd rfl [7, 8] rfl rfl) ?_ ?_
                    · rintro _ _ ⟨rfl, rfl⟩
                      refine T.ef0 rfl rfl (wanted_none rfl) (d_storeG0 (i := 0) (cs2 := [.int .i64 t26_1, v26_4, v26_5, v26_6, .int .i64 t26_5]) ti67 rfl rfl rfl rfl rfl (Nat.le_of_ble_eq_true rfl) (lf_cons rfl (lf_cons (sl_leaf hl_v26_4) (lf_cons (sl_leaf hl_v26_5) (lf_cons (sl_leaf hl_v26_6) (lf_cons rfl lf_nil)))))) (by rintro _ _ ⟨rfl, rfl⟩; exact upd rfl [7, 8] rfl rfl) ?_ ?_
                      · rintro _ _ ⟨rfl, rfl⟩
                        refine T.nil ?_
                        refine F.q rfl rfl rfl (wanted_none rfl) (r_assign rfl) ?_
                        refine F.nil ?_
                        cases hE_1
                        refine Nrm.only [2, 3, 6, 7] rfl ?_
                        refine Nrm.pick [7, 8, 0, 1, 2, 3] rfl rfl ?_
                        exact hj_1 _ _ ⟨v26_4, S26_4, v26_5, S26_5, v26_6, S26_6, b6_8, hl_v26_4, hl_v26_5, hl_v26_6, rfl, rfl⟩
                      exact T.stop
                    · refine T.ef0 rfl rfl (wanted_none rfl) (d_storeG0 (i := 0) (cs2 := [.int .i64 t26_1, v26_4, v26_5, v26_6, .int .i64 t26_5]) ti67 rfl rfl rfl rfl rfl (Nat.le_of_ble_eq_true rfl) (lf_cons rfl (lf_cons (sl_leaf hl_v26_4) (lf_cons (sl_leaf hl_v26_5) (lf_cons (sl_leaf hl_v26_6) (lf_cons rfl lf_nil)))))) (by rintro _ _ ⟨rfl, rfl⟩; exact upd rfl [7, 8] rfl rfl) ?_ ?_
                      · rintro _ _ ⟨rfl, rfl⟩
                        refine T.ef rfl rfl rfl (wanted_none rfl) (Runs.does (r_extract rfl rfl)) (by rintro _ _ ⟨rfl, rfl⟩; exact upd rfl [7, 8] rfl rfl) ?_ ?_
                        · rintro _ _ ⟨rfl, rfl⟩
                          refine T.nil ?_
                          refine F.q rfl rfl rfl (wanted_none rfl) (r_assign rfl) ?_
                          refine F.nil ?_
                          cases hE_1
                          refine Nrm.only [2, 3, 6, 7] rfl ?_
                          refine Nrm.pick [7, 8, 0, 1, 2, 3] rfl rfl ?_
                          exact hj_1 _ _ ⟨v26_4, S26_4, v26_5, S26_5, v26_6, S26_6, b6_8, hl_v26_4, hl_v26_5, hl_v26_6, rfl, rfl⟩
                        exact T.stop
                      exact T.stop
                  · refine T.ef rfl rfl rfl (wanted_none rfl) (Runs.does (r_extract rfl rfl)) (by rintro _ _ ⟨rfl, rfl⟩; exact upd rfl [7, 8] rfl rfl) ?_ ?_
                    · rintro _ _ ⟨rfl, rfl⟩
                      refine T.ef rfl rfl rfl (wanted_none rfl) (Runs.does (r_extract rfl rfl)) (by rintro _ _ ⟨rfl, rfl⟩; exact upd rfl [7, 8] rfl rfl) ?_ ?_
                      · rintro _ _ ⟨rfl, rfl⟩
                        refine T.ef0 rfl rfl (wanted_none rfl) (d_storeG0 (i := 0) (cs2 := [.int .i64 t26_1, v26_4, v26_5, v26_6, .int .i64 t26_5]) ti67 rfl rfl rfl rfl rfl (Nat.le_of_ble_eq_true rfl) (lf_cons rfl (lf_cons (sl_leaf hl_v26_4) (lf_cons (sl_leaf hl_v26_5) (lf_cons (sl_leaf hl_v26_6) (lf_cons rfl lf_nil)))))) (by rintro _ _ ⟨rfl, rfl⟩; exact upd rfl [7, 8] rfl rfl) ?_ ?_
                        · rintro _ _ ⟨rfl, rfl⟩
                          refine T.nil ?_
                          refine F.q rfl rfl rfl (wanted_none rfl) (r_assign rfl) ?_
                          refine F.nil ?_
                          cases hE_1
                          refine Nrm.only [2, 3, 6, 7] rfl ?_
                          refine Nrm.pick [7, 8, 0, 1, 2, 3] rfl rfl ?_
                          exact hj_1 _ _ ⟨v26_4, S26_4, v26_5, S26_5, v26_6, S26_6, b6_8, hl_v26_4, hl_v26_5, hl_v26_6, rfl, rfl⟩
                        exact T.stop
                      exact T.stop
                    exact T.stop
                exact T.stop
              exact T.stop
          · refine T.ef rfl rfl rfl (wanted_none rfl) (Makes.does (m_alloc ti67)) (by rintro _ _ ⟨b6_9, rfl, rfl⟩; exact upd rfl [4, 5] rfl rfl) ?_ ?_
            · rintro _ _ ⟨b6_9, rfl, rfl⟩
              refine T.ef rfl rfl rfl (wanted_none rfl) (Makes.does (m_callF (xs := _) rfl ok44 rfl rfl (fun w hw => spec_DoDeed.ok h26 w ((rd_sl (i := 1) rfl) w hw) ((rd_sl (i := 2) rfl) w hw) ((rd_sl (i := 3) rfl) w hw)))) (by rintro _ _ ⟨_, ⟨v26_7, S26_7, v26_8, S26_8, v26_9, S26_9, rfl, hl_v26_7, hl_v26_8, hl_v26_9, rfl⟩, rfl⟩; exact upd rfl [7, 8] rfl rfl) ?_ ?_
              · rintro _ _ ⟨_, ⟨v26_7, S26_7, v26_8, S26_8, v26_9, S26_9, rfl, hl_v26_7, hl_v26_8, hl_v26_9, rfl⟩, rfl⟩
                refine T.ef rfl rfl rfl (wanted_none rfl) (Runs.does (r_move rfl)) (by rintro _ _ ⟨rfl, rfl⟩; exact upd rfl [7, 8] rfl rfl) ?_ ?_
                · rintro _ _ ⟨rfl, rfl⟩
                  refine T.ef rfl rfl rfl (wanted_none rfl) (Runs.does (r_extract rfl rfl)) (by rintro _ _ ⟨rfl, rfl⟩; exact upd rfl [7, 8] rfl rfl) ?_ ?_
                  · rintro _ _ ⟨rfl, rfl⟩
                    refine T.ef rfl rfl rfl (wanted_none rfl) (Runs.does (r_extract rfl rfl)) (by rintro _ _ ⟨rfl, rfl⟩; exact upd rfl [7, 8] rfl rfl) ?_ ?_
                    · rintro _ _ ⟨rfl, rfl⟩
                      refine T.ef0 rfl rfl (wanted_none rfl) (d_storeG0 (i := 3) (cs2 := [.int .i64 t26_1, v26_7, v26_8, v26_9, .int .i64 t26_5]) ti67 rfl rfl rfl rfl rfl (Nat.le_of_ble_eq_true rfl) (lf_cons rfl (lf_cons (sl_leaf hl_v26_7) (lf_cons (sl_leaf hl_v26_8) (lf_cons (sl_leaf hl_v26_9) (lf_cons rfl lf_nil)))))) (by rintro _ _ ⟨rfl, rfl⟩; exact upd rfl [7, 8] rfl rfl) ?_ ?_
                      · rintro _ _ ⟨rfl, rfl⟩
                        refine T.nil ?_
                        refine F.q rfl rfl rfl (wanted_none rfl) (r_assign rfl) ?_
                        refine F.nil ?_
                        cases hE_1
                        refine Nrm.only [2, 3, 6, 7] rfl ?_
                        refine Nrm.pick [7, 8, 3, 0, 1, 2] rfl rfl ?_
                        exact hj_1 _ _ ⟨v26_7, S26_7, v26_8, S26_8, v26_9, S26_9, b6_9, hl_v26_7, hl_v26_8, hl_v26_9, rfl, rfl⟩
                      exact T.stop
                    · refine T.ef0 rfl rfl (wanted_none rfl) (d_storeG0 (i := 3) (cs2 := [.int .i64 t26_1, v26_7, v26_8, v26_9, .int .i64 t26_5]) ti67 rfl rfl rfl rfl rfl (Nat.le_of_ble_eq_true rfl) (lf_cons rfl (lf_cons (sl_leaf hl_v26_7) (lf_cons (sl_leaf hl_v26_8) (lf_cons (sl_leaf hl_v26_9) (lf_cons rfl lf_nil)))))) (by rintro _ _ ⟨rfl, rfl⟩; exact upd rfl [7, 8] rfl rfl) ?_ ?_
                      · rintro _ _ ⟨rfl, rfl⟩
                        refine T.ef rfl rfl rfl (wanted_none rfl) (Runs.does (r_extract rfl rfl)) (by rintro _ _ ⟨rfl, rfl⟩; exact upd rfl [7, 8] rfl rfl) ?_ ?_
                        · rintro _ _ ⟨rfl, rfl⟩
                          refine T.nil ?_
                          refine F.q rfl rfl rfl (wanted_none rfl) (r_assign rfl) ?_
                          refine F.nil ?_
                          cases hE_1
                          refine Nrm.only [2, 3, 6, 7] rfl ?_
                          refine Nrm.pick [7, 8, 3, 0, 1, 2] rfl rfl ?_
                          exact hj_1 _ _ ⟨v26_7, S26_7, v26_8, S26_8, v26_9, S26_9, b6_9, hl_v26_7, hl_v26_8, hl_v26_9, rfl, rfl⟩
                        exact T.stop
                      exact T.stop
                  · refine T.ef rfl rfl rfl (wanted_none rfl) (Runs.does (r_extract rfl rfl)) (by rintro _ _ ⟨rfl, rfl⟩; exact upd rfl [7, 8] rfl rfl) ?_ ?_
                    · rintro _ _ ⟨rfl, rfl⟩
                      refine T.ef rfl rfl rfl (wanted_none rfl) (Runs.does (r_extract rfl rfl)) (by rintro _ _ ⟨rfl, rfl⟩; exact upd rfl [7, 8] rfl rfl) ?_ ?_
                      · rintro _ _ ⟨rfl, rfl⟩
                        refine T.ef0 rfl rfl (wanted_none rfl) (d_storeG0 (i := 3) (cs2 := [.int .i64 t26_1, v26_7, v26_8, v26_9, .int .i64 t26_5]) ti67 rfl rfl rfl rfl rfl (Nat.le_of_ble_eq_true rfl) (lf_cons rfl (lf_cons (sl_leaf hl_v26_7) (lf_cons (sl_leaf hl_v26_8) (lf_cons (sl_leaf hl_v26_9) (lf_cons rfl lf_nil)))))) (by rintro _ _ ⟨rfl, rfl⟩; exact upd rfl [7, 8] rfl rfl) ?_ ?_
                        · rintro _ _ ⟨rfl, rfl⟩
                          refine T.nil ?_
                          refine F.q rfl rfl rfl (wanted_none rfl) (r_assign rfl) ?_
                          refine F.nil ?_
                          cases hE_1
                          refine Nrm.only [2, 3, 6, 7] rfl ?_
                          refine Nrm.pick [7, 8, 3, 0, 1, 2] rfl rfl ?_
                          exact hj_1 _ _ ⟨v26_7, S26_7, v26_8, S26_8, v26_9, S26_9, b6_9, hl_v26_7, hl_v26_8, hl_v26_9, rfl, rfl⟩
                        exact T.stop
                      exact T.stop
                    exact T.stop
                exact T.stop
              exact T.stop
            exact T.stop
        · refine T.ef rfl rfl rfl (wanted_none rfl) (Makes.does (m_alloc ti67)) (by rintro _ _ ⟨b6_10, rfl, rfl⟩; exact upd rfl [4, 5] rfl rfl) ?_ ?_
          · rintro _ _ ⟨b6_10, rfl, rfl⟩
            refine T.ef rfl rfl rfl (wanted_none rfl) (qc_does (q_callF (xs := _) rfl ok46 rfl rfl (fun w hw => laws_toDeed.ok h25 w ))) (by rintro _ _ ⟨rfl, rfl⟩; exact upd rfl [4, 5] rfl rfl) ?_ ?_
            · rintro _ _ ⟨rfl, rfl⟩
              refine T.ef rfl rfl rfl (wanted_none rfl) (Makes.does (m_callF (xs := _) rfl ok44 rfl rfl (fun w hw => spec_DoDeed.ok h26 w ((rd_sl (i := 1) rfl) w hw) ((rd_sl (i := 2) rfl) w hw) ((rd_sl (i := 3) rfl) w hw)))) (by rintro _ _ ⟨_, ⟨v26_10, S26_10, v26_11, S26_11, v26_12, S26_12, rfl, hl_v26_10, hl_v26_11, hl_v26_12, rfl⟩, rfl⟩; exact upd rfl [7, 8] rfl rfl) ?_ ?_
              · rintro _ _ ⟨_, ⟨v26_10, S26_10, v26_11, S26_11, v26_12, S26_12, rfl, hl_v26_10, hl_v26_11, hl_v26_12, rfl⟩, rfl⟩
                refine T.ef rfl rfl rfl (wanted_none rfl) (Runs.does (r_move rfl)) (by rintro _ _ ⟨rfl, rfl⟩; exact upd rfl [7, 8] rfl rfl) ?_ ?_
                · rintro _ _ ⟨rfl, rfl⟩
                  refine T.ef rfl rfl rfl (wanted_none rfl) (Runs.does (r_extract rfl rfl)) (by rintro _ _ ⟨rfl, rfl⟩; exact upd rfl [7, 8] rfl rfl) ?_ ?_
                  · rintro _ _ ⟨rfl, rfl⟩
                    refine T.ef rfl rfl rfl (wanted_none rfl) (Runs.does (r_extract rfl rfl)) (by rintro _ _ ⟨rfl, rfl⟩; exact upd rfl [7, 8] rfl rfl) ?_ ?_
                    · rintro _ _ ⟨rfl, rfl⟩
                      refine T.ef0 rfl rfl (wanted_none rfl) (d_storeG0 (i := 3) (cs2 := [.int .i64 t26_1, v26_10, v26_11, v26_12, .int .i64 t26_5]) ti67 rfl rfl rfl rfl rfl (Nat.le_of_ble_eq_true rfl) (lf_cons rfl (lf_cons (sl_leaf hl_v26_10) (lf_cons (sl_leaf hl_v26_11) (lf_cons (sl_leaf hl_v26_12) (lf_cons rfl lf_nil)))))) (by rintro _ _ ⟨rfl, rfl⟩; exact upd rfl [7, 8] rfl rfl) ?_ ?_
                      · rintro _ _ ⟨rfl, rfl⟩
                        refine T.nil ?_
                        refine F.q rfl rfl rfl (wanted_none rfl) (r_assign rfl) ?_
                        refine F.nil ?_
                        cases hE_1
                        refine Nrm.only [2, 3, 6, 7] rfl ?_
                        refine Nrm.pick [7, 8, 3, 0, 1, 2] rfl rfl ?_
                        exact hj_1 _ _ ⟨v26_10, S26_10, v26_11, S26_11, v26_12, S26_12, b6_10, hl_v26_10, hl_v26_11, hl_v26_12, rfl, rfl⟩
                      exact T.stop
                    · refine T.ef0 rfl rfl (wanted_none rfl) (d_storeG0 (i := 3) (cs2 := [.int .i64 t26_1, v26_10, v26_11, v26_12, .int .i64 t26_5]) ti67 rfl rfl rfl rfl rfl (Nat.le_of_ble_eq_true rfl) (lf_cons rfl (lf_cons (sl_leaf hl_v26_10) (lf_cons (sl_leaf hl_v26_11) (lf_cons (sl_leaf hl_v26_12) (lf_cons rfl lf_nil)))))) (by rintro _ _ ⟨rfl, rfl⟩; exact upd rfl [7, 8] rfl rfl) ?_ ?_
                      · rintro _ _ ⟨rfl, rfl⟩
                        refine T.ef rfl rfl rfl (wanted_none rfl) (Runs.does (r_extract rfl rfl)) (by rintro _ _ ⟨rfl, rfl⟩; exact upd rfl [7, 8] rfl rfl) ?_ ?_
                        · rintro _ _ ⟨rfl, rfl⟩
                          refine T.nil ?_
                          refine F.q rfl rfl rfl (wanted_none rfl) (r_assign rfl) ?_
                          refine F.nil ?_
                          cases hE_1
                          refine Nrm.only [2, 3, 6, 7] rfl ?_
                          refine Nrm.pick [7, 8, 3, 0, 1, 2] rfl rfl ?_
                          exact hj_1 _ _ ⟨v26_10, S26_10, v26_11, S26_11, v26_12, S26_12, b6_10, hl_v26_10, hl_v26_11, hl_v26_12, rfl, rfl⟩
                        exact T.stop
                      exact T.stop
                  · refine T.ef rfl rfl rfl (wanted_none rfl) (Runs.does (r_extract rfl rfl)) (by rintro _ _ ⟨rfl, rfl⟩; exact upd rfl [7, 8] rfl rfl) ?_ ?_
                    · rintro _ _ ⟨rfl, rfl⟩
                      refine T.ef rfl rfl rfl (wanted_none rfl) (Runs.does (r_extract rfl rfl)) (by rintro _ _ ⟨rfl, rfl⟩; exact upd rfl [7, 8] rfl rfl) ?_ ?_
                      · rintro _ _ ⟨rfl, rfl⟩
                        refine T.ef0 rfl rfl (wanted_none rfl) (d_storeG0 (i := 3) (cs2 := [.int .i64 t26_1, v26_10, v26_11, v26_12, .int .i64 t26_5]) ti67 rfl rfl rfl rfl rfl (Nat.le_of_ble_eq_true rfl) (lf_cons rfl (lf_cons (sl_leaf hl_v26_10) (lf_cons (sl_leaf hl_v26_11) (lf_cons (sl_leaf hl_v26_12) (lf_cons rfl lf_nil)))))) (by rintro _ _ ⟨rfl, rfl⟩; exact upd rfl [7, 8] rfl rfl) ?_ ?_
                        · rintro _ _ ⟨rfl, rfl⟩
                          refine T.nil ?_
                          refine F.q rfl rfl rfl (wanted_none rfl) (r_assign rfl) ?_
                          refine F.nil ?_
                          cases hE_1
                          refine Nrm.only [2, 3, 6, 7] rfl ?_
                          refine Nrm.pick [7, 8, 3, 0, 1, 2] rfl rfl ?_
                          exact hj_1 _ _ ⟨v26_10, S26_10, v26_11, S26_11, v26_12, S26_12, b6_10, hl_v26_10, hl_v26_11, hl_v26_12, rfl, rfl⟩
                        exact T.stop
                      exact T.stop
                    exact T.stop
                exact T.stop
              exact T.stop
            exact T.stop
          exact T.stop
      · refine T.ef rfl rfl rfl (wanted_none rfl) (Makes.does (m_alloc ti67)) (by rintro _ _ ⟨b6_11, rfl, rfl⟩; exact upd rfl [1, 2] rfl rfl) ?_ ?_
        · rintro _ _ ⟨b6_11, rfl, rfl⟩
          refine T.ef rfl rfl rfl (wanted_none rfl) (Makes.does (m_callF (xs := _) rfl ok45 rfl rfl (fun w hw => laws_toVisit.ok h23 w ((fun _ hw => hr_a0_1.sep hw) w hw) ((fun _ hw => hr_a0_2.sep hw) w hw) ((fun _ hw => hr_a0_3.sep hw) w hw)))) (by rintro _ _ ⟨_, ⟨v23_7, S23_7, v23_8, S23_8, v23_9, S23_9, rfl, hl_v23_7, hl_v23_8, hl_v23_9, rfl⟩, rfl⟩; exact upd rfl [4, 5] rfl rfl) ?_ ?_
          · rintro _ _ ⟨_, ⟨v23_7, S23_7, v23_8, S23_8, v23_9, S23_9, rfl, hl_v23_7, hl_v23_8, hl_v23_9, rfl⟩, rfl⟩
            refine T.ef rfl rfl rfl (wanted_none rfl) (qc_does (q_callF (xs := _) rfl ok46 rfl rfl (fun w hw => laws_toDeed.ok h25 w ))) (by rintro _ _ ⟨rfl, rfl⟩; exact upd rfl [4, 5] rfl rfl) ?_ ?_
            · rintro _ _ ⟨rfl, rfl⟩
              refine T.ef rfl rfl rfl (wanted_none rfl) (Makes.does (m_callF (xs := _) rfl ok44 rfl rfl (fun w hw => spec_DoDeed.ok h26 w ((rd_sl (i := 0) rfl) w hw) ((rd_sl (i := 1) rfl) w hw) ((rd_sl (i := 2) rfl) w hw)))) (by rintro _ _ ⟨_, ⟨v26_13, S26_13, v26_14, S26_14, v26_15, S26_15, rfl, hl_v26_13, hl_v26_14, hl_v26_15, rfl⟩, rfl⟩; exact upd rfl [7, 8] rfl rfl) ?_ ?_
              · rintro _ _ ⟨_, ⟨v26_13, S26_13, v26_14, S26_14, v26_15, S26_15, rfl, hl_v26_13, hl_v26_14, hl_v26_15, rfl⟩, rfl⟩
                refine T.ef rfl rfl rfl (wanted_none rfl) (Runs.does (r_move rfl)) (by rintro _ _ ⟨rfl, rfl⟩; exact upd rfl [7, 8] rfl rfl) ?_ ?_
                · rintro _ _ ⟨rfl, rfl⟩
                  refine T.ef rfl rfl rfl (wanted_none rfl) (Runs.does (r_extract rfl rfl)) (by rintro _ _ ⟨rfl, rfl⟩; exact upd rfl [7, 8] rfl rfl) ?_ ?_
                  · rintro _ _ ⟨rfl, rfl⟩
                    refine T.ef rfl rfl rfl (wanted_none rfl) (Runs.does (r_extract rfl rfl)) (by rintro _ _ ⟨rfl, rfl⟩; exact upd rfl [7, 8] rfl rfl) ?_ ?_
                    · rintro _ _ ⟨rfl, rfl⟩
                      refine T.ef0 rfl rfl (wanted_none rfl) (d_storeG0 (i := 6) (cs2 := [.int .i64 t26_1, v26_13, v26_14, v26_15, .int .i64 t26_5]) ti67 rfl rfl rfl rfl rfl (Nat.le_of_ble_eq_true rfl) (lf_cons rfl (lf_cons (sl_leaf hl_v26_13) (lf_cons (sl_leaf hl_v26_14) (lf_cons (sl_leaf hl_v26_15) (lf_cons rfl lf_nil)))))) (by rintro _ _ ⟨rfl, rfl⟩; exact upd rfl [7, 8] rfl rfl) ?_ ?_
                      · rintro _ _ ⟨rfl, rfl⟩
                        refine T.nil ?_
                        refine F.q rfl rfl rfl (wanted_none rfl) (r_assign rfl) ?_
                        refine F.nil ?_
                        cases hE_1
                        refine Nrm.only [2, 3, 6, 7] rfl ?_
                        refine Nrm.pick [7, 8, 6, 0, 1, 2] rfl rfl ?_
                        exact hj_1 _ _ ⟨v26_13, S26_13, v26_14, S26_14, v26_15, S26_15, b6_11, hl_v26_13, hl_v26_14, hl_v26_15, rfl, rfl⟩
                      exact T.stop
                    · refine T.ef0 rfl rfl (wanted_none rfl) (d_storeG0 (i := 6) (cs2 := [.int .i64 t26_1, v26_13, v26_14, v26_15, .int .i64 t26_5]) ti67 rfl rfl rfl rfl rfl (Nat.le_of_ble_eq_true rfl) (lf_cons rfl (lf_cons (sl_leaf hl_v26_13) (lf_cons (sl_leaf hl_v26_14) (lf_cons (sl_leaf hl_v26_15) (lf_cons rfl lf_nil)))))) (by rintro _ _ ⟨rfl, rfl⟩; exact upd rfl [7, 8] rfl rfl) ?_ ?_
                      · rintro _ _ ⟨rfl, rfl⟩
                        refine T.ef rfl rfl rfl (wanted_none rfl) (Runs.does (r_extract rfl rfl)) (by rintro _ _ ⟨rfl, rfl⟩; exact upd rfl [7, 8] rfl rfl) ?_ ?_
                        · rintro _ _ ⟨rfl, rfl⟩
                          refine T.nil ?_
                          refine F.q rfl rfl rfl (wanted_none rfl) (r_assign rfl) ?_
                          refine F.nil ?_
                          cases hE_1
                          refine Nrm.only [2, 3, 6, 7] rfl ?_
                          refine Nrm.pick [7, 8, 6, 0, 1, 2] rfl rfl ?_
                          exact hj_1 _ _ ⟨v26_13, S26_13, v26_14, S26_14, v26_15, S26_15, b6_11, hl_v26_13, hl_v26_14, hl_v26_15, rfl, rfl⟩
                        exact T.stop
                      exact T.stop
                  · refine T.ef rfl rfl rfl (wanted_none rfl) (Runs.does (r_extract rfl rfl)) (by rintro _ _ ⟨rfl, rfl⟩; exact upd rfl [7, 8] rfl rfl) ?_ ?_
                    · rintro _ _ ⟨rfl, rfl⟩
                      refine T.ef rfl rfl rfl (wanted_none rfl) (Runs.does (r_extract rfl rfl)) (by rintro _ _ ⟨rfl, rfl⟩; exact upd rfl [7, 8] rfl rfl) ?_ ?_
                      · rintro _ _ ⟨rfl, rfl⟩
                        refine T.ef0 rfl rfl (wanted_none rfl) (d_storeG0 (i := 6) (cs2 := [.int .i64 t26_1, v26_13, v26_14, v26_15, .int .i64 t26_5]) ti67 rfl rfl rfl rfl rfl (Nat.le_of_ble_eq_true rfl) (lf_cons rfl (lf_cons (sl_leaf hl_v26_13) (lf_cons (sl_leaf hl_v26_14) (lf_cons (sl_leaf hl_v26_15) (lf_cons rfl lf_nil)))))) (by rintro _ _ ⟨rfl, rfl⟩; exact upd rfl [7, 8] rfl rfl) ?_ ?_
                        · rintro _ _ ⟨rfl, rfl⟩
                          refine T.nil ?_
                          refine F.q rfl rfl rfl (wanted_none rfl) (r_assign rfl) ?_
                          refine F.nil ?_
                          cases hE_1
                          refine Nrm.only [2, 3, 6, 7] rfl ?_
                          refine Nrm.pick [7, 8, 6, 0, 1, 2] rfl rfl ?_
                          exact hj_1 _ _ ⟨v26_13, S26_13, v26_14, S26_14, v26_15, S26_15, b6_11, hl_v26_13, hl_v26_14, hl_v26_15, rfl, rfl⟩
                        exact T.stop
                      exact T.stop
                    exact T.stop
                exact T.stop
              exact T.stop
            exact T.stop
          exact T.stop
        exact T.stop

end Go.Proofs
