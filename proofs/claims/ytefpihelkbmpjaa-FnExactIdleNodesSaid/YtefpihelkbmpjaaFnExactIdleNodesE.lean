/- A part of the proof of FnExactIdleNodes: what the functions of the program compute, walked on the model. No condition. -/
import Derived.Test.YtefpihelkbmpjaaFnExactIdleNodesD
/- loop.example/g01158/laws.FnExactIdleNodes -/
namespace Go.Proofs
open Go Go.Ga
set_option linter.unusedVariables false
set_option maxRecDepth 100000
set_option maxHeartbeats 4000000
def laws_FnExactIdleNodes.f (k : Nat) (a0_0 : Int) (a0_1 : List (Int × Int × Int)) (a0_2 : List Int) (a1 : Int) : Option (Bool) := (laws_szMaze.f k a0_0 a0_1 a0_2 1048576).bind fun t18 => (if (decide (t18 < 0)) = true then some true else (laws_toMaze.f k a0_0 a0_1 a0_2).bind fun (t23_1, t23_2, t23_3) => (spec_IdleNodes.f k t23_1 t23_2 t23_3 a1).bind fun (t25_1, t25_2) => (laws_toMaze.f k a0_0 a0_1 a0_2).bind fun (t29_1, t29_2, t29_3) => (impl_IdleNodes.f k t29_1 t29_2 t29_3 a1).bind fun (t33_1, t33_2) => ((laws_eqIntS.f k t33_1 t25_1).bind fun t38 => (if (!t38) = true then some true else some (t33_2 != t25_2))).bind fun y44 => (if y44 = true then some false else (laws_toMaze.f k a0_0 a0_1 a0_2).bind fun (t47_1, t47_2, t47_3) => (laws_eqMaze.f k t29_1 t29_2 t29_3 t47_1 t47_2 t47_3).bind fun t48 => (if (!t48) = true then some false else (laws_markMaze.f k t29_1 t29_2 t29_3 1).bind fun (t52_1, t52_2, t52_3) => ((if (decide (t52_1 < 0)) = true then some true else (laws_eqIntS.f k t33_1 t25_1).bind fun t58 => (if (!t58) = true then some true else some (t33_2 != t25_2)))).bind fun y65 => (if y65 = true then some false else (laws_markIntS.f k t33_1 1).bind fun (t68_1, t68_2) => (laws_heldIntS.f k t68_2 1).bind fun t71 => (if (decide (t71 < 0)) = true then some false else (if (t71 != t68_1) = true then some false else (laws_toMaze.f k a0_0 a0_1 a0_2).bind fun (t79_1, t79_2, t79_3) => (impl_IdleNodes.f k t79_1 t79_2 t79_3 a1).bind fun (t81_1, t81_2) => ((laws_eqIntS.f k t81_1 t25_1).bind fun t86 => (if (!t86) = true then some true else some (t81_2 != t25_2))).bind fun y92 => (if y92 = true then some false else (laws_heldIntS.f k t68_2 1).bind fun t95 => (if (decide (t95 < 0)) = true then some false else (if (t95 != t68_1) = true then some false else some true)))))))))

theorem laws_FnExactIdleNodes.ok {k : Nat}  {a0_0 : Int} {a0_1 : List (Int × Int × Int)} {a0_2 : List Int} {a1 : Int} {r0 : Bool} (h : laws_FnExactIdleNodes.f k a0_0 a0_1 a0_2 a1 = some r0) (w : World) {va0_1 : Value} {va0_2 : Value} (hr_a0_1 : Rd w va0_1 a0_1) (hr_a0_2 : Rd w va0_2 a0_2) :
    Calls Try.prog 4 ([.agg ([.int .i64 a0_0, va0_1, va0_2].toArray), .int .i64 a1] : List Value).toArray w (fun e w' => e = .returned (.bool r0) ∧ Ext w w') := by
  unfold laws_FnExactIdleNodes.f at h
  have hl_va0_1 := hr_a0_1.len
  have hl_va0_2 := hr_a0_2.len
  refine Calls.of_tri (N := 101) Try.func4 rfl rfl rfl (Sep.nil (M := noM)) ?_
  refine Tri.seq ?_
  refine Tri.reg (l := [0, 1]) rfl ?_
  refine F.m rfl rfl rfl (wanted_none rfl) (m_boxG rfl rfl) ?_
  rintro _ _ ⟨b2_1, rfl, rfl⟩
  refine F.q rfl rfl rfl (wanted_none rfl) (r_assign rfl) ?_
  refine F.nil ?_
  refine Nrm.seq ?_
  refine Tri.seq ?_
  refine Tri.reg (l := [0]) rfl ?_
  refine F.q rfl rfl rfl (wanted_none rfl) (r_assign rfl) ?_
  refine F.nil ?_
  refine Nrm.seq ?_
  refine Tri.seq ?_
  obtain ⟨t18, h18, h⟩ := bind_some h
  refine Tri.reg (l := [0, 1, 2, 3]) rfl ?_
  refine F.q rfl rfl rfl (wanted_none rfl) (r_loadA ta25 ti25 rfl rfl (fun w hw => (box_cells (i := 0) rfl w hw))) ?_
  refine F.q rfl rfl rfl (wanted_none rfl) (r_move rfl) ?_
  refine F.qc rfl rfl rfl (wanted_none rfl) (q_callF (xs := _) rfl ok24 rfl rfl (fun w hw => laws_szMaze.ok h18 w ((fun _ hw => hr_a0_1.sep hw) w hw) ((fun _ hw => hr_a0_2.sep hw) w hw))) ?_
  refine F.q rfl rfl rfl (wanted_none rfl) (r_assign rfl) ?_
  refine F.nil ?_
  refine Nrm.seq ?_
  refine Tri.seq ?_
  refine Tri.seq ?_
  refine Tri.reg (l := [0, 1]) rfl ?_
  refine F.q rfl rfl rfl (wanted_none rfl) (r_move rfl) ?_
  refine F.q rfl rfl rfl (wanted_none rfl) (r_lss rfl rfl) ?_
  refine F.nil ?_
  refine Nrm.seq ?_
  refine Tri.cond (b := decide (t18 < 0)) rfl (fun g_1 => ?_) (fun g_1 => ?_)
  · replace h := if_tt g_1 h
    refine Tri.seq ?_
    refine Tri.reg (l := [0]) rfl ?_
    refine F.q rfl rfl rfl (wanted_none rfl) (r_assign rfl) ?_
    refine F.nil ?_
    refine Nrm.seq ?_
    refine Tri.ret ?_
    refine Rtn.then ?_
    cases h
    exact Rtn.body (.tmp rfl .nil) (fun w hw => ⟨rfl, hw.ext⟩)
  · replace h := if_ff g_1 h
    refine Tri.skip ?_
    refine Nrm.seq ?_
    refine Tri.seq ?_
    obtain ⟨⟨t23_1, t23_2, t23_3⟩, h23, h⟩ := bind_some h
    obtain ⟨⟨t25_1, t25_2⟩, h25, h⟩ := bind_some h
    refine Tri.reg (l := [0, 1, 2, 3, 4, 5, 6, 7, 8]) rfl ?_
    refine F.q rfl rfl rfl (wanted_none rfl) (r_loadA ta25 ti25 rfl rfl (fun w hw => (box_cells (i := 0) rfl w hw))) ?_
    refine F.m rfl rfl rfl (wanted_none rfl) (m_callF (xs := _) rfl ok26 rfl rfl (fun w hw => laws_toMaze.ok h23 w ((fun _ hw => hr_a0_1.sep hw) w hw) ((fun _ hw => hr_a0_2.sep hw) w hw))) ?_
    rintro _ _ ⟨_, ⟨v23_1, S23_1, v23_2, S23_2, rfl, hl_v23_1, hl_v23_2, rfl⟩, rfl⟩
    refine F.q rfl rfl rfl (wanted_none rfl) (r_move rfl) ?_
    refine F.m rfl rfl rfl (wanted_none rfl) (m_callF (xs := _) rfl ok25 rfl rfl (fun w hw => spec_IdleNodes.ok h25 w ((rd_sl (i := 0) rfl) w hw) ((rd_sl (i := 1) rfl) w hw))) ?_
    rintro _ _ ⟨_, ⟨v25_1, S25_1, rfl, hl_v25_1, rfl⟩, rfl⟩
    refine F.q rfl rfl rfl (wanted_none rfl) (r_move rfl) ?_
    refine F.q rfl rfl rfl (wanted_none rfl) (r_extract rfl rfl) ?_
    refine F.q rfl rfl rfl (wanted_none rfl) (r_extract rfl rfl) ?_
    refine F.q rfl rfl rfl (wanted_none rfl) (r_assign rfl) ?_
    refine F.q rfl rfl rfl (wanted_none rfl) (r_assign rfl) ?_
    refine F.nil ?_
    refine Nrm.seq ?_
    refine Tri.seq ?_
    obtain ⟨⟨t29_1, t29_2, t29_3⟩, h29, h⟩ := bind_some h
    refine Tri.reg (l := [0, 1, 2, 3]) rfl ?_
    refine F.q rfl rfl rfl (wanted_none rfl) (r_loadA ta25 ti25 rfl rfl (fun w hw => (box_cells (i := 3) rfl w hw))) ?_
    refine F.m rfl rfl rfl (wanted_none rfl) (m_callF (xs := _) rfl ok26 rfl rfl (fun w hw => laws_toMaze.ok h29 w ((fun _ hw => hr_a0_1.sep hw) w hw) ((fun _ hw => hr_a0_2.sep hw) w hw))) ?_
    rintro _ _ ⟨_, ⟨v29_1, S29_1, v29_2, S29_2, rfl, hl_v29_1, hl_v29_2, rfl⟩, rfl⟩
    refine F.m rfl rfl rfl (wanted_none rfl) (m_alloc ti31) ?_
    rintro _ _ ⟨b8_1, rfl, rfl⟩
    refine F.ef0 rfl rfl (wanted_none rfl) (d_storeG0 (i := 0) (cs2 := [.int .i64 t29_1, v29_1, v29_2]) ti31 rfl rfl rfl rfl rfl (Nat.le_of_ble_eq_true rfl) (lf_cons rfl (lf_cons (sl_leaf hl_v29_1) (lf_cons (sl_leaf hl_v29_2) lf_nil)))) ?_
    rintro _ _ ⟨rfl, rfl⟩
    refine F.nil ?_
    refine Nrm.seq ?_
    refine Tri.seq ?_
    obtain ⟨⟨t33_1, t33_2⟩, h33, h⟩ := bind_some h
    refine Tri.reg (l := [0, 1, 2, 3, 4, 5, 6, 7]) rfl ?_
    refine F.q rfl rfl rfl (wanted_none rfl) (r_loadA ta31 ti31 rfl rfl (fun w hw => (box_cells (i := 0) rfl w hw))) ?_
    refine F.q rfl rfl rfl (wanted_none rfl) (r_move rfl) ?_
    refine F.m rfl rfl rfl (wanted_none rfl) (m_callF (xs := _) rfl ok27 rfl rfl (fun w hw => impl_IdleNodes.ok h33 w ((rd_sl (i := 1) rfl) w hw) ((rd_sl (i := 2) rfl) w hw))) ?_
    rintro _ _ ⟨_, ⟨v33_1, S33_1, rfl, hl_v33_1, rfl⟩, rfl⟩
    refine F.q rfl rfl rfl (wanted_none rfl) (r_move rfl) ?_
    refine F.q rfl rfl rfl (wanted_none rfl) (r_extract rfl rfl) ?_
    refine F.q rfl rfl rfl (wanted_none rfl) (r_extract rfl rfl) ?_
    refine F.q rfl rfl rfl (wanted_none rfl) (r_assign rfl) ?_
    refine F.q rfl rfl rfl (wanted_none rfl) (r_assign rfl) ?_
    refine F.nil ?_
    refine Nrm.seq ?_
    refine Tri.seq ?_
    refine Tri.seq ?_
    obtain ⟨y44, hE_1, h⟩ := bind_some h
    refine Tri.cut (fun e' C' => e' = [(1, .int .i64 a1), (2, .pointer (some ⟨b2_1, 0, none⟩)), (6, v25_1), (7, .bool t25_2), (8, .pointer (some ⟨b8_1, 0, none⟩)), (9, v33_1), (10, .bool t33_2), (44, .bool y44)] ∧ C' = Sep w noM [R.box b8_1 31 [.int .i64 t29_1, v29_1, v29_2], R.box b2_1 25 [.int .i64 a0_0, va0_1, va0_2], R.sl S25_1 v25_1 (t25_1 : List (Int)), R.sl S29_1 v29_1 (t29_2 : List (Int × Int × Int)), R.sl S29_2 v29_2 (t29_3 : List (Int)), R.sl S33_1 v33_1 (t33_1 : List (Int))]) ?_ (fun hj_1 => ?_)
    · rintro _ _ ⟨rfl, rfl⟩
      refine Nrm.seq ?_
      refine Tri.cond (b := y44) rfl (fun g_2 => ?_) (fun g_2 => ?_)
      · replace h := if_tt g_2 h
        refine Tri.seq ?_
        refine Tri.reg (l := [0]) rfl ?_
        refine F.q rfl rfl rfl (wanted_none rfl) (r_assign rfl) ?_
        refine F.nil ?_
        refine Nrm.seq ?_
        refine Tri.ret ?_
        refine Rtn.then ?_
        cases h
        exact Rtn.body (.tmp rfl .nil) (fun w hw => ⟨rfl, hw.ext⟩)
      · replace h := if_ff g_2 h
        refine Tri.skip ?_
        refine Nrm.seq ?_
        refine Tri.seq ?_
        refine Tri.seq ?_
        obtain ⟨⟨t47_1, t47_2, t47_3⟩, h47, h⟩ := bind_some h
        obtain ⟨t48, h48, h⟩ := bind_some h
        refine Tri.drawA mixedT Sep.up [(0, true), (1, true), (2, false), (3, true), (4, true)] [] (by kernel_rfl) ?_
        refine S.q rfl rfl rfl (wanted_none rfl) (r_loadA ta31 ti31 rfl rfl (fun w hw => (box_cells (i := 0) rfl w hw))) ?_
        refine S.q rfl rfl rfl (wanted_none rfl) (r_loadA ta25 ti25 rfl rfl (fun w hw => (box_cells (i := 1) rfl w hw))) ?_
        refine S.m rfl rfl rfl (wanted_none rfl) (m_callF (xs := _) rfl ok26 rfl rfl (fun w hw => laws_toMaze.ok h47 w ((fun _ hw => hr_a0_1.sep hw) w hw) ((fun _ hw => hr_a0_2.sep hw) w hw))) ?_
        rintro _ _ ⟨_, ⟨v47_3, S47_3, v47_4, S47_4, rfl, hl_v47_3, hl_v47_4, rfl⟩, rfl⟩
        refine S.qc rfl rfl rfl (wanted_none rfl) (q_callF (xs := _) rfl ok28 rfl rfl (fun w hw => laws_eqMaze.ok h48 w ((rd_sl (i := 5) rfl) w hw) ((rd_sl (i := 6) rfl) w hw) ((rd_sl (i := 0) rfl) w hw) ((rd_sl (i := 1) rfl) w hw))) ?_
        refine S.q rfl rfl rfl (wanted_none rfl) (r_not rfl) ?_
        refine S.nil ?_
        refine F.nil ?_
        refine Nrm.seq ?_
        refine Tri.cond (b := !t48) rfl (fun g_3 => ?_) (fun g_3 => ?_)
        · replace h := if_tt g_3 h
          refine Tri.seq ?_
          refine Tri.reg (l := [0]) rfl ?_
          refine F.q rfl rfl rfl (wanted_none rfl) (r_assign rfl) ?_
          refine F.nil ?_
          refine Nrm.seq ?_
          refine Tri.ret ?_
          refine Rtn.then ?_
          cases h
          exact Rtn.body (.tmp rfl .nil) (fun w hw => ⟨rfl, hw.ext⟩)
        · replace h := if_ff g_3 h
          refine Tri.skip ?_
          refine Nrm.seq ?_
          refine Tri.seq ?_
          refine Tri.reg (l := [0]) rfl ?_
          refine F.q rfl rfl rfl (wanted_none rfl) (r_assign rfl) ?_
          refine F.nil ?_
          refine Nrm.seq ?_
          refine Tri.seq ?_
          obtain ⟨⟨t52_1, t52_2, t52_3⟩, h52, h⟩ := bind_some h
          refine Tri.reg (l := [0, 1, 2, 3]) rfl ?_
          refine F.q rfl rfl rfl (wanted_none rfl) (r_loadA ta31 ti31 rfl rfl (fun w hw => (box_cells (i := 2) rfl w hw))) ?_
          refine F.q rfl rfl rfl (wanted_none rfl) (r_move rfl) ?_
          refine F.ef rfl rfl rfl (wanted_none rfl) (d_callM (xs := _) (cs := [R.sl S29_1 v29_1 (t29_2 : List (Int × Int × Int)), R.sl S29_2 v29_2 (t29_3 : List (Int))]) (rest := [R.sl S47_3 v47_3 (t47_2 : List (Int × Int × Int)), R.sl S47_4 v47_4 (t47_3 : List (Int)), R.box b8_1 31 [.int .i64 t29_1, v29_1, v29_2], R.box b2_1 25 [.int .i64 a0_0, va0_1, va0_2], R.sl S25_1 v25_1 (t25_1 : List (Int)), R.sl S33_1 v33_1 (t33_1 : List (Int))]) [5, 6] [0, 1, 2, 3, 4, 7] rfl ok29 rfl rfl rfl rfl (fun w hw => laws_markMaze.ok h52 w hl_v29_1 hl_v29_2 (Sep.sub hw))) ?_
          rintro _ _ ⟨_, ⟨rfl, hl_t52_2, hl_t52_3, rfl⟩, rfl⟩
          refine F.q rfl rfl rfl (wanted_none rfl) (r_assign rfl) ?_
          refine F.nil ?_
          refine Nrm.seq ?_
          refine Tri.seq ?_
          refine Tri.seq ?_
          obtain ⟨y65, hE_2, h⟩ := bind_some h
          refine Tri.cut (fun e' C' => e' = [(1, .int .i64 a1), (2, .pointer (some ⟨b2_1, 0, none⟩)), (6, v25_1), (7, .bool t25_2), (9, v33_1), (65, .bool y65)] ∧ C' = Sep w noM [R.box b2_1 25 [.int .i64 a0_0, va0_1, va0_2], R.sl S25_1 v25_1 (t25_1 : List (Int)), R.sl S33_1 v33_1 (t33_1 : List (Int))]) ?_ (fun hj_2 => ?_)
          · rintro _ _ ⟨rfl, rfl⟩
            refine Nrm.seq ?_
            refine Tri.cond (b := y65) rfl (fun g_4 => ?_) (fun g_4 => ?_)
            · replace h := if_tt g_4 h
              refine Tri.seq ?_
              refine Tri.reg (l := [0]) rfl ?_
              refine F.q rfl rfl rfl (wanted_none rfl) (r_assign rfl) ?_
              refine F.nil ?_
              refine Nrm.seq ?_
              refine Tri.ret ?_
              refine Rtn.then ?_
              cases h
              exact Rtn.body (.tmp rfl .nil) (fun w hw => ⟨rfl, hw.ext⟩)
            · replace h := if_ff g_4 h
              refine Tri.skip ?_
              refine Nrm.seq ?_
              refine Tri.seq ?_
              refine Tri.reg (l := [0]) rfl ?_
              refine F.q rfl rfl rfl (wanted_none rfl) (r_assign rfl) ?_
              refine F.nil ?_
              refine Nrm.seq ?_
              refine Tri.seq ?_
              obtain ⟨⟨t68_1, t68_2⟩, h68, h⟩ := bind_some h
              refine Tri.reg (l := [0, 1, 2, 3]) rfl ?_
              refine F.q rfl rfl rfl (wanted_none rfl) (r_move rfl) ?_
              refine F.q rfl rfl rfl (wanted_none rfl) (r_move rfl) ?_
              refine F.ef rfl rfl rfl (wanted_none rfl) (d_callM (xs := _) (cs := [R.sl S33_1 v33_1 (t33_1 : List (Int))]) (rest := [R.box b2_1 25 [.int .i64 a0_0, va0_1, va0_2], R.sl S25_1 v25_1 (t25_1 : List (Int))]) [2] [0, 1] rfl ok22 rfl rfl rfl rfl (fun w hw => laws_markIntS.ok h68 w hl_v33_1 (Sep.sub hw))) ?_
              rintro _ _ ⟨_, ⟨rfl, hl_t68_2, rfl⟩, rfl⟩
              refine F.q rfl rfl rfl (wanted_none rfl) (r_assign rfl) ?_
              refine F.nil ?_
              refine Nrm.seq ?_
              refine Tri.seq ?_
              refine Tri.reg (l := [0]) rfl ?_
              refine F.q rfl rfl rfl (wanted_none rfl) (r_assign rfl) ?_
              refine F.nil ?_
              refine Nrm.seq ?_
              refine Tri.seq ?_
              obtain ⟨t71, h71, h⟩ := bind_some h
              refine Tri.reg (l := [0, 1, 2, 3]) rfl ?_
              refine F.q rfl rfl rfl (wanted_none rfl) (r_move rfl) ?_
              refine F.q rfl rfl rfl (wanted_none rfl) (r_move rfl) ?_
              refine F.qc rfl rfl rfl (wanted_none rfl) (q_callF (xs := _) rfl ok23 rfl rfl (fun w hw => laws_heldIntS.ok h71 w ((rd_sl (i := 0) rfl) w hw))) ?_
              refine F.q rfl rfl rfl (wanted_none rfl) (r_assign rfl) ?_
              refine F.nil ?_
              refine Nrm.seq ?_
              refine Tri.seq ?_
              refine Tri.seq ?_
              refine Tri.reg (l := [0, 1]) rfl ?_
              refine F.q rfl rfl rfl (wanted_none rfl) (r_move rfl) ?_
              refine F.q rfl rfl rfl (wanted_none rfl) (r_lss rfl rfl) ?_
              refine F.nil ?_
              refine Nrm.seq ?_
              refine Tri.cond (b := decide (t71 < 0)) rfl (fun g_5 => ?_) (fun g_5 => ?_)
              · replace h := if_tt g_5 h
                refine Tri.seq ?_
                refine Tri.reg (l := [0]) rfl ?_
                refine F.q rfl rfl rfl (wanted_none rfl) (r_assign rfl) ?_
                refine F.nil ?_
                refine Nrm.seq ?_
                refine Tri.ret ?_
                refine Rtn.then ?_
                cases h
                exact Rtn.body (.tmp rfl .nil) (fun w hw => ⟨rfl, hw.ext⟩)
              · replace h := if_ff g_5 h
                refine Tri.skip ?_
                refine Nrm.seq ?_
                refine Tri.seq ?_
                refine Tri.seq ?_
                refine Tri.reg (l := [0, 1, 2]) rfl ?_
                refine F.q rfl rfl rfl (wanted_none rfl) (r_move rfl) ?_
                refine F.q rfl rfl rfl (wanted_none rfl) (r_move rfl) ?_
                refine F.q rfl rfl rfl (wanted_none rfl) (r_neq rfl rfl) ?_
                refine F.nil ?_
                refine Nrm.seq ?_
                refine Tri.cond (b := t71 != t68_1) rfl (fun g_6 => ?_) (fun g_6 => ?_)
                · replace h := if_tt g_6 h
                  refine Tri.seq ?_
                  refine Tri.reg (l := [0]) rfl ?_
                  refine F.q rfl rfl rfl (wanted_none rfl) (r_assign rfl) ?_
                  refine F.nil ?_
                  refine Nrm.seq ?_
                  refine Tri.ret ?_
                  refine Rtn.then ?_
                  cases h
                  exact Rtn.body (.tmp rfl .nil) (fun w hw => ⟨rfl, hw.ext⟩)
                · replace h := if_ff g_6 h
                  refine Tri.skip ?_
                  refine Nrm.seq ?_
                  refine Tri.seq ?_
                  obtain ⟨⟨t79_1, t79_2, t79_3⟩, h79, h⟩ := bind_some h
                  obtain ⟨⟨t81_1, t81_2⟩, h81, h⟩ := bind_some h
                  refine Tri.reg (l := [0, 1, 2, 3, 4, 5, 6, 7, 8]) rfl ?_
                  refine F.q rfl rfl rfl (wanted_none rfl) (r_loadA ta25 ti25 rfl rfl (fun w hw => (box_cells (i := 1) rfl w hw))) ?_
                  refine F.m rfl rfl rfl (wanted_none rfl) (m_callF (xs := _) rfl ok26 rfl rfl (fun w hw => laws_toMaze.ok h79 w ((fun _ hw => hr_a0_1.sep hw) w hw) ((fun _ hw => hr_a0_2.sep hw) w hw))) ?_
                  rintro _ _ ⟨_, ⟨v79_1, S79_1, v79_2, S79_2, rfl, hl_v79_1, hl_v79_2, rfl⟩, rfl⟩
                  refine F.q rfl rfl rfl (wanted_none rfl) (r_move rfl) ?_
                  refine F.m rfl rfl rfl (wanted_none rfl) (m_callF (xs := _) rfl ok27 rfl rfl (fun w hw => impl_IdleNodes.ok h81 w ((rd_sl (i := 0) rfl) w hw) ((rd_sl (i := 1) rfl) w hw))) ?_
                  rintro _ _ ⟨_, ⟨v81_1, S81_1, rfl, hl_v81_1, rfl⟩, rfl⟩
                  refine F.q rfl rfl rfl (wanted_none rfl) (r_move rfl) ?_
                  refine F.q rfl rfl rfl (wanted_none rfl) (r_extract rfl rfl) ?_
                  refine F.q rfl rfl rfl (wanted_none rfl) (r_extract rfl rfl) ?_
                  refine F.q rfl rfl rfl (wanted_none rfl) (r_assign rfl) ?_
                  refine F.q rfl rfl rfl (wanted_none rfl) (r_assign rfl) ?_
                  refine F.nil ?_
                  refine Nrm.seq ?_
                  refine Tri.seq ?_
                  refine Tri.seq ?_
                  obtain ⟨y92, hE_3, h⟩ := bind_some h
                  refine Tri.cut (fun e' C' => e' = [(9, v33_1), (12, .int .i64 t68_1), (92, .bool y92)] ∧ C' = Sep w noM [R.sl S33_1 v33_1 (t68_2 : List (Int))]) ?_ (fun hj_3 => ?_)
                  · rintro _ _ ⟨rfl, rfl⟩
                    refine Nrm.seq ?_
                    refine Tri.cond (b := y92) rfl (fun g_7 => ?_) (fun g_7 => ?_)
                    · replace h := if_tt g_7 h
                      refine Tri.seq ?_
                      refine Tri.reg (l := [0]) rfl ?_
                      refine F.q rfl rfl rfl (wanted_none rfl) (r_assign rfl) ?_
                      refine F.nil ?_
                      refine Nrm.seq ?_
                      refine Tri.ret ?_
                      refine Rtn.then ?_
                      cases h
                      exact Rtn.body (.tmp rfl .nil) (fun w hw => ⟨rfl, hw.ext⟩)
                    · replace h := if_ff g_7 h
                      refine Tri.skip ?_
                      refine Nrm.seq ?_
                      refine Tri.seq ?_
                      refine Tri.reg (l := [0]) rfl ?_
                      refine F.q rfl rfl rfl (wanted_none rfl) (r_assign rfl) ?_
                      refine F.nil ?_
                      refine Nrm.seq ?_
                      refine Tri.seq ?_
                      obtain ⟨t95, h95, h⟩ := bind_some h
                      refine Tri.reg (l := [0, 1, 2, 3]) rfl ?_
                      refine F.q rfl rfl rfl (wanted_none rfl) (r_move rfl) ?_
                      refine F.q rfl rfl rfl (wanted_none rfl) (r_move rfl) ?_
                      refine F.qc rfl rfl rfl (wanted_none rfl) (q_callF (xs := _) rfl ok23 rfl rfl (fun w hw => laws_heldIntS.ok h95 w ((rd_sl (i := 0) rfl) w hw))) ?_
                      refine F.q rfl rfl rfl (wanted_none rfl) (r_assign rfl) ?_
                      refine F.nil ?_
                      refine Nrm.seq ?_
                      refine Tri.seq ?_
                      refine Tri.seq ?_
                      refine Tri.reg (l := [0, 1]) rfl ?_
                      refine F.q rfl rfl rfl (wanted_none rfl) (r_move rfl) ?_
                      refine F.q rfl rfl rfl (wanted_none rfl) (r_lss rfl rfl) ?_
                      refine F.nil ?_
                      refine Nrm.seq ?_
                      refine Tri.cond (b := decide (t95 < 0)) rfl (fun g_8 => ?_) (fun g_8 => ?_)
                      · replace h := if_tt g_8 h
                        refine Tri.seq ?_
                        refine Tri.reg (l := [0]) rfl ?_
                        refine F.q rfl rfl rfl (wanted_none rfl) (r_assign rfl) ?_
                        refine F.nil ?_
                        refine Nrm.seq ?_
                        refine Tri.ret ?_
                        refine Rtn.then ?_
                        cases h
                        exact Rtn.body (.tmp rfl .nil) (fun w hw => ⟨rfl, hw.ext⟩)
                      · replace h := if_ff g_8 h
                        refine Tri.skip ?_
                        refine Nrm.seq ?_
                        refine Tri.seq ?_
                        refine Tri.seq ?_
                        refine Tri.reg (l := [0, 1, 2]) rfl ?_
                        refine F.q rfl rfl rfl (wanted_none rfl) (r_move rfl) ?_
                        refine F.q rfl rfl rfl (wanted_none rfl) (r_move rfl) ?_
                        refine F.q rfl rfl rfl (wanted_none rfl) (r_neq rfl rfl) ?_
                        refine F.nil ?_
                        refine Nrm.seq ?_
                        refine Tri.cond (b := t95 != t68_1) rfl (fun g_9 => ?_) (fun g_9 => ?_)
                        · replace h := if_tt g_9 h
                          refine Tri.seq ?_
                          refine Tri.reg (l := [0]) rfl ?_
                          refine F.q rfl rfl rfl (wanted_none rfl) (r_assign rfl) ?_
                          refine F.nil ?_
                          refine Nrm.seq ?_
                          refine Tri.ret ?_
                          refine Rtn.then ?_
                          cases h
                          exact Rtn.body (.tmp rfl .nil) (fun w hw => ⟨rfl, hw.ext⟩)
                        · replace h := if_ff g_9 h
                          refine Tri.skip ?_
                          refine Nrm.seq ?_
                          refine Tri.seq ?_
                          refine Tri.reg (l := [0]) rfl ?_
                          refine F.q rfl rfl rfl (wanted_none rfl) (r_assign rfl) ?_
                          refine F.nil ?_
                          refine Nrm.seq ?_
                          refine Tri.ret ?_
                          cases h
                          exact Rtn.body (.tmp rfl .nil) (fun w hw => ⟨rfl, hw.ext⟩)
                  · obtain ⟨t86, h86, hE_3⟩ := bind_some hE_3
                    rcases Bool.eq_false_or_eq_true (!t86) with g88 | g88
                    · replace hE_3 := if_tt g88 hE_3
                      refine Tri.reg (l := [0, 1, 2, 3, 4, 5, 6, 7, 8]) rfl ?_
                      refine F.q rfl rfl rfl (wanted_none rfl) (r_move rfl) ?_
                      refine F.q rfl rfl rfl (wanted_none rfl) (r_move rfl) ?_
                      refine F.qc rfl rfl rfl (wanted_none rfl) (q_callF (xs := _) rfl ok19 rfl rfl (fun w hw => laws_eqIntS.ok h86 w ((rd_sl (i := 0) rfl) w hw) ((rd_sl (i := 5) rfl) w hw))) ?_
                      refine F.q rfl rfl rfl (wanted_none rfl) (r_not rfl) ?_
                      refine F.q rfl rfl rfl (wanted_none rfl) (r_move rfl) ?_
                      refine F.sk rfl rfl rfl (wf rfl rfl rfl g88) ?_
                      refine F.sk rfl rfl rfl (wf rfl rfl rfl g88) ?_
                      refine F.sk rfl rfl rfl (wf rfl rfl rfl g88) ?_
                      refine F.q rfl rfl rfl (wanted_none rfl) (r_pick rfl rfl g88) ?_
                      refine F.nil ?_
                      cases hE_3
                      refine Nrm.only [9, 12, 92] rfl ?_
                      refine Nrm.pick [3] rfl rfl ?_
                      exact hj_3 _ _ ⟨rfl, rfl⟩
                    · replace hE_3 := if_ff g88 hE_3
                      refine Tri.reg (l := [0, 1, 2, 3, 4, 5, 6, 7, 8]) rfl ?_
                      refine F.q rfl rfl rfl (wanted_none rfl) (r_move rfl) ?_
                      refine F.q rfl rfl rfl (wanted_none rfl) (r_move rfl) ?_
                      refine F.qc rfl rfl rfl (wanted_none rfl) (q_callF (xs := _) rfl ok19 rfl rfl (fun w hw => laws_eqIntS.ok h86 w ((rd_sl (i := 0) rfl) w hw) ((rd_sl (i := 5) rfl) w hw))) ?_
                      refine F.q rfl rfl rfl (wanted_none rfl) (r_not rfl) ?_
                      refine F.q rfl rfl rfl (wanted_none rfl) (r_move rfl) ?_
                      refine F.q rfl rfl rfl (wg rfl rfl rfl g88) (r_move rfl) ?_
                      refine F.q rfl rfl rfl (wg rfl rfl rfl g88) (r_move rfl) ?_
                      refine F.q rfl rfl rfl (wg rfl rfl rfl g88) (r_neqB Try.underlying4 rfl rfl) ?_
                      refine F.q rfl rfl rfl (wanted_none rfl) (r_pickf rfl rfl g88) ?_
                      refine F.nil ?_
                      cases hE_3
                      refine Nrm.only [9, 12, 92] rfl ?_
                      refine Nrm.pick [3] rfl rfl ?_
                      exact hj_3 _ _ ⟨rfl, rfl⟩
          · rcases Bool.eq_false_or_eq_true (decide (t52_1 < 0)) with g55 | g55
            · replace hE_2 := if_tt g55 hE_2
              refine Tri.reg (l := [0, 1, 2, 3, 4, 5, 6, 7, 8, 9, 10, 11, 12]) rfl ?_
              refine F.q rfl rfl rfl (wanted_none rfl) (r_move rfl) ?_
              refine F.q rfl rfl rfl (wanted_none rfl) (r_lss rfl rfl) ?_
              refine F.q rfl rfl rfl (wanted_none rfl) (r_move rfl) ?_
              refine F.sk rfl rfl rfl (wf rfl rfl rfl g55) ?_
              refine F.sk rfl rfl rfl (wf rfl rfl rfl g55) ?_
              refine F.sk rfl rfl rfl (wf rfl rfl rfl g55) ?_
              refine F.sk rfl rfl rfl (wf rfl rfl rfl g55) ?_
              refine F.q rfl rfl rfl (wanted_none rfl) (r_pick rfl rfl g55) ?_
              refine F.q rfl rfl rfl (wanted_none rfl) (r_move rfl) ?_
              refine F.sk rfl rfl rfl (wf rfl rfl rfl rfl) ?_
              refine F.sk rfl rfl rfl (wf rfl rfl rfl rfl) ?_
              refine F.sk rfl rfl rfl (wf rfl rfl rfl rfl) ?_
              refine F.q rfl rfl rfl (wanted_none rfl) (r_pick rfl rfl rfl) ?_
              refine F.nil ?_
              cases hE_2
              refine Nrm.only [1, 2, 6, 7, 9, 65] rfl ?_
              refine Nrm.pick [5, 6, 7] rfl rfl ?_
              exact hj_2 _ _ ⟨rfl, rfl⟩
            · replace hE_2 := if_ff g55 hE_2
              obtain ⟨t58, h58, hE_2⟩ := bind_some hE_2
              rcases Bool.eq_false_or_eq_true (!t58) with g61 | g61
              · replace hE_2 := if_tt g61 hE_2
                refine Tri.reg (l := [0, 1, 2, 3, 4, 5, 6, 7, 8, 9, 10, 11, 12]) rfl ?_
                refine F.q rfl rfl rfl (wanted_none rfl) (r_move rfl) ?_
                refine F.q rfl rfl rfl (wanted_none rfl) (r_lss rfl rfl) ?_
                refine F.q rfl rfl rfl (wanted_none rfl) (r_move rfl) ?_
                refine F.q rfl rfl rfl (wg rfl rfl rfl g55) (r_move rfl) ?_
                refine F.q rfl rfl rfl (wg rfl rfl rfl g55) (r_move rfl) ?_
                refine F.qc rfl rfl rfl (wg rfl rfl rfl g55) (q_callF (xs := _) rfl ok19 rfl rfl (fun w hw => laws_eqIntS.ok h58 w ((rd_sl (i := 7) rfl) w hw) ((rd_sl (i := 6) rfl) w hw))) ?_
                refine F.q rfl rfl rfl (wg rfl rfl rfl g55) (r_not rfl) ?_
                refine F.q rfl rfl rfl (wanted_none rfl) (r_pickf rfl rfl g55) ?_
                refine F.q rfl rfl rfl (wanted_none rfl) (r_move rfl) ?_
                refine F.sk rfl rfl rfl (wf rfl rfl rfl g61) ?_
                refine F.sk rfl rfl rfl (wf rfl rfl rfl g61) ?_
                refine F.sk rfl rfl rfl (wf rfl rfl rfl g61) ?_
                refine F.q rfl rfl rfl (wanted_none rfl) (r_pick rfl rfl g61) ?_
                refine F.nil ?_
                cases hE_2
                refine Nrm.only [1, 2, 6, 7, 9, 65] rfl ?_
                refine Nrm.pick [5, 6, 7] rfl rfl ?_
                exact hj_2 _ _ ⟨rfl, rfl⟩
              · replace hE_2 := if_ff g61 hE_2
                refine Tri.reg (l := [0, 1, 2, 3, 4, 5, 6, 7, 8, 9, 10, 11, 12]) rfl ?_
                refine F.q rfl rfl rfl (wanted_none rfl) (r_move rfl) ?_
                refine F.q rfl rfl rfl (wanted_none rfl) (r_lss rfl rfl) ?_
                refine F.q rfl rfl rfl (wanted_none rfl) (r_move rfl) ?_
                refine F.q rfl rfl rfl (wg rfl rfl rfl g55) (r_move rfl) ?_
                refine F.q rfl rfl rfl (wg rfl rfl rfl g55) (r_move rfl) ?_
                refine F.qc rfl rfl rfl (wg rfl rfl rfl g55) (q_callF (xs := _) rfl ok19 rfl rfl (fun w hw => laws_eqIntS.ok h58 w ((rd_sl (i := 7) rfl) w hw) ((rd_sl (i := 6) rfl) w hw))) ?_
                refine F.q rfl rfl rfl (wg rfl rfl rfl g55) (r_not rfl) ?_
                refine F.q rfl rfl rfl (wanted_none rfl) (r_pickf rfl rfl g55) ?_
                refine F.q rfl rfl rfl (wanted_none rfl) (r_move rfl) ?_
                refine F.q rfl rfl rfl (wg rfl rfl rfl g61) (r_move rfl) ?_
                refine F.q rfl rfl rfl (wg rfl rfl rfl g61) (r_move rfl) ?_
                refine F.q rfl rfl rfl (wg rfl rfl rfl g61) (r_neqB Try.underlying4 rfl rfl) ?_
                refine F.q rfl rfl rfl (wanted_none rfl) (r_pickf rfl rfl g61) ?_
                refine F.nil ?_
                cases hE_2
                refine Nrm.only [1, 2, 6, 7, 9, 65] rfl ?_
                refine Nrm.pick [5, 6, 7] rfl rfl ?_
                exact hj_2 _ _ ⟨rfl, rfl⟩
    · obtain ⟨t38, h38, hE_1⟩ := bind_some hE_1
      rcases Bool.eq_false_or_eq_true (!t38) with g40 | g40
      · replace hE_1 := if_tt g40 hE_1
        refine Tri.reg (l := [0, 1, 2, 3, 4, 5, 6, 7, 8]) rfl ?_
        refine F.q rfl rfl rfl (wanted_none rfl) (r_move rfl) ?_
        refine F.q rfl rfl rfl (wanted_none rfl) (r_move rfl) ?_
        refine F.qc rfl rfl rfl (wanted_none rfl) (q_callF (xs := _) rfl ok19 rfl rfl (fun w hw => laws_eqIntS.ok h38 w ((rd_sl (i := 0) rfl) w hw) ((rd_sl (i := 4) rfl) w hw))) ?_
        refine F.q rfl rfl rfl (wanted_none rfl) (r_not rfl) ?_
        refine F.q rfl rfl rfl (wanted_none rfl) (r_move rfl) ?_
        refine F.sk rfl rfl rfl (wf rfl rfl rfl g40) ?_
        refine F.sk rfl rfl rfl (wf rfl rfl rfl g40) ?_
        refine F.sk rfl rfl rfl (wf rfl rfl rfl g40) ?_
        refine F.q rfl rfl rfl (wanted_none rfl) (r_pick rfl rfl g40) ?_
        refine F.nil ?_
        cases hE_1
        refine Nrm.only [1, 2, 6, 7, 8, 9, 10, 44] rfl ?_
        refine Nrm.pick [1, 7, 4, 2, 3, 0] rfl rfl ?_
        exact hj_1 _ _ ⟨rfl, rfl⟩
      · replace hE_1 := if_ff g40 hE_1
        refine Tri.reg (l := [0, 1, 2, 3, 4, 5, 6, 7, 8]) rfl ?_
        refine F.q rfl rfl rfl (wanted_none rfl) (r_move rfl) ?_
        refine F.q rfl rfl rfl (wanted_none rfl) (r_move rfl) ?_
        refine F.qc rfl rfl rfl (wanted_none rfl) (q_callF (xs := _) rfl ok19 rfl rfl (fun w hw => laws_eqIntS.ok h38 w ((rd_sl (i := 0) rfl) w hw) ((rd_sl (i := 4) rfl) w hw))) ?_
        refine F.q rfl rfl rfl (wanted_none rfl) (r_not rfl) ?_
        refine F.q rfl rfl rfl (wanted_none rfl) (r_move rfl) ?_
        refine F.q rfl rfl rfl (wg rfl rfl rfl g40) (r_move rfl) ?_
        refine F.q rfl rfl rfl (wg rfl rfl rfl g40) (r_move rfl) ?_
        refine F.q rfl rfl rfl (wg rfl rfl rfl g40) (r_neqB Try.underlying4 rfl rfl) ?_
        refine F.q rfl rfl rfl (wanted_none rfl) (r_pickf rfl rfl g40) ?_
        refine F.nil ?_
        cases hE_1
        refine Nrm.only [1, 2, 6, 7, 8, 9, 10, 44] rfl ?_
        refine Nrm.pick [1, 7, 4, 2, 3, 0] rfl rfl ?_
        exact hj_1 _ _ ⟨rfl, rfl⟩

end Go.Proofs
