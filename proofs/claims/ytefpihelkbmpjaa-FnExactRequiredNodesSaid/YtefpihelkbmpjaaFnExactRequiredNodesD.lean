/- A part of the proof of FnExactRequiredNodes: what the functions of the program compute, walked on the model. No condition. -/
import Derived.Test.YtefpihelkbmpjaaFnExactRequiredNodesC
/- loop.example/g01158/spec.l2Maze -/
namespace Go.Proofs
open Go Go.Ga
set_option linter.unusedVariables false
set_option maxRecDepth 100000
set_option maxHeartbeats 4000000
def spec_l2Maze.l1 (k : Nat) (a0_0 : Int) (a0_2 : List Int) : Nat → Int → Option ((Unit) ⊕ (Bool))
  | 0, _ => none
  | n + 1, x5 => (if (decide (x5 < a0_0)) = true then (rdl a0_2 x5).bind fun t85 => (spec_l2Set.f k t85).bind fun t87 => (if (!t87) = true then some (Sum.inr false) else spec_l2Maze.l1 k a0_0 a0_2 n (w64 (x5 + 1))) else some (Sum.inl ()))

def spec_l2Maze.l0 (k : Nat) (a0_0 : Int) (a0_1 : List (Int × Int × Int)) : Nat → Int → Option ((Unit) ⊕ (Bool))
  | 0, _ => none
  | n + 1, x3 => (if (decide (x3 < (a0_1.length : Int))) = true then (rdl a0_1 x3).bind fun t34 => ((spec_l1In.f k t34.1 0 (w64 (a0_0 - 1))).bind fun t41 => (if (!t41) = true then some true else (spec_l1In.f k t34.2.1 (w64 (t34.1 + 1)) (w64 (a0_0 - 1))).bind fun t52 => (if (!t52) = true then some true else (spec_l2Set.f k t34.2.2).bind fun t58 => (if (!t58) = true then some true else (if (decide (x3 > 0)) = true then (rdl a0_1 (w64 (x3 - 1))).bind fun t69 => (spec_l2Before.f k t69.1 t69.2.1 t69.2.2 t34.1 t34.2.1 t34.2.2).bind fun t72 => some (!t72) else some false))))).bind fun y75 => (if y75 = true then some (Sum.inr false) else spec_l2Maze.l0 k a0_0 a0_1 n (w64 (x3 + 1))) else some (Sum.inl ()))

def spec_l2Maze.f (k : Nat) (a0_0 : Int) (a0_1 : List (Int × Int × Int)) (a0_2 : List Int) : Option (Bool) := ((spec_l1In.f k a0_0 1 12).bind fun t8 => (if (!t8) = true then some true else (if (decide ((a0_1.length : Int) > 30)) = true then some true else some ((a0_2.length : Int) != a0_0)))).bind fun y23 => (if y23 = true then some false else (spec_l2Maze.l0 k a0_0 a0_1 k 0).bind fun s => Lr s some fun _ => (spec_l2Maze.l1 k a0_0 a0_2 k 0).bind fun s => Lr s some fun _ => some true)

theorem spec_l2Maze.ok {k : Nat}  {a0_0 : Int} {a0_1 : List (Int × Int × Int)} {a0_2 : List Int} {r0 : Bool} (h : spec_l2Maze.f k a0_0 a0_1 a0_2 = some r0) (w : World) {va0_1 : Value} {va0_2 : Value} (hr_a0_1 : Rd w va0_1 a0_1) (hr_a0_2 : Rd w va0_2 a0_2) :
    Calls Try.prog 134 ([.agg ([.int .i64 a0_0, va0_1, va0_2].toArray)] : List Value).toArray w (fun e w' => e = .returned (.bool r0) ∧ Ext w w') := by
  unfold spec_l2Maze.f at h
  have hl_va0_1 := hr_a0_1.len
  have hl_va0_2 := hr_a0_2.len
  refine Calls.of_tri (N := 89) Try.func134 rfl rfl rfl (Sep.nil (M := noM)) ?_
  refine Tri.seq ?_
  refine Tri.reg (l := [0, 1]) rfl ?_
  refine F.m rfl rfl rfl (wanted_none rfl) (m_boxG rfl rfl) ?_
  rintro _ _ ⟨b1_1, rfl, rfl⟩
  refine F.q rfl rfl rfl (wanted_none rfl) (r_assign rfl) ?_
  refine F.nil ?_
  refine Nrm.seq ?_
  refine Tri.seq ?_
  refine Tri.seq ?_
  obtain ⟨y23, hE_1, h⟩ := bind_some h
  refine Tri.cut (fun e' C' => e' = [(1, .pointer (some ⟨b1_1, 0, none⟩)), (23, .bool y23)] ∧ C' = Sep w noM [R.box b1_1 31 [.int .i64 a0_0, va0_1, va0_2]]) ?_ (fun hj_1 => ?_)
  · rintro _ _ ⟨rfl, rfl⟩
    refine Nrm.seq ?_
    refine Tri.cond (b := y23) rfl (fun g_1 => ?_) (fun g_1 => ?_)
    · replace h := if_tt g_1 h
      refine Tri.seq ?_
      refine Tri.reg (l := [0]) rfl ?_
      refine F.q rfl rfl rfl (wanted_none rfl) (r_assign rfl) ?_
      refine F.nil ?_
      refine Nrm.seq ?_
      refine Tri.ret ?_
      refine Rtn.then ?_
      cases h
      exact Rtn.body (.tmp rfl .nil) (fun w hw => ⟨rfl, hw.ext⟩)
    · replace h := if_ff g_1 h
      refine Tri.skip ?_
      refine Nrm.seq ?_
      refine Tri.seq ?_
      refine Tri.seq ?_
      refine Tri.reg (l := [0]) rfl ?_
      refine F.q rfl rfl rfl (wanted_none rfl) (r_assign rfl) ?_
      refine F.nil ?_
      refine Nrm.seq ?_
      obtain ⟨s0, hE_2, h⟩ := bind_some h
      refine Tri.block ?_
      refine Tri.only [1, 3] rfl ?_
      refine Tri.pick [0] rfl rfl ?_
      refine Tri.rounds (fun n e' C' => ∃ (x3' : Int), spec_l2Maze.l0 k a0_0 a0_1 n x3' = some s0 ∧ e' = [(1, .pointer (some ⟨b1_1, 0, none⟩)), (3, .int .i64 x3')] ∧ C' = Sep w noM [R.box b1_1 31 [.int .i64 a0_0, va0_1, va0_2]]) k ?_ ?_ ?_
      · exact ⟨0, hE_2, rfl, rfl⟩
      · rintro _ _ ⟨_, hE_2, _⟩
        rw [spec_l2Maze.l0.eq_1] at hE_2; cases hE_2
      · rintro n_1 _ _ ⟨x3, hE_2, rfl, rfl⟩ ih_1
        rw [spec_l2Maze.l0.eq_2] at hE_2
        refine Tri.seq ?_
        refine Tri.seq ?_
        refine Tri.reg (l := [0, 1, 2, 3, 4]) rfl ?_
        refine F.q rfl rfl rfl (wanted_none rfl) (r_move rfl) ?_
        refine F.q rfl rfl rfl (wanted_none rfl) (r_fieldAddr tf31_1 rfl) ?_
        refine F.q rfl rfl rfl (wanted_none rfl) (r_load ta22 rfl (fun w hw => cell_1 (box_cells (i := 0) rfl w hw) rfl)) ?_
        refine F.q rfl rfl rfl (wanted_none rfl) (r_len Try.underlying22 rfl hl_va0_1) ?_
        refine F.q rfl rfl rfl (wanted_none rfl) (r_lss rfl rfl) ?_
        refine F.nil ?_
        refine Nrm.seq ?_
        refine Tri.cond (b := decide (x3 < (a0_1.length : Int))) rfl (fun g_2 => ?_) (fun g_2 => ?_)
        · replace hE_2 := if_tt g_2 hE_2
          refine Tri.skip ?_
          refine Nrm.seq ?_
          refine Tri.seq ?_
          refine Tri.block ?_
          refine Tri.seq ?_
          obtain ⟨t34, h34, hE_2⟩ := bind_some hE_2
          refine Tri.reg (l := [0, 1, 2, 3, 4, 5, 6]) rfl ?_
          refine F.q rfl rfl rfl (wanted_none rfl) (r_fieldAddr tf31_1 rfl) ?_
          refine F.q rfl rfl rfl (wanted_none rfl) (r_load ta22 rfl (fun w hw => cell_1 (box_cells (i := 0) rfl w hw) rfl)) ?_
          refine F.q rfl rfl rfl (wanted_none rfl) (r_move rfl) ?_
          refine F.q rfl rfl rfl (wanted_none rfl) (r_indexAddrS Try.underlying22 ti130 rfl hl_va0_1 rfl (rdl_some h34).1 (rdl_some h34).2.1) ?_
          refine F.q rfl rfl rfl (wanted_none rfl) (r_loadA ta130 ti130 rfl rfl (fun w hw => (Rd.flat ((fun _ hw => hr_a0_1.sep hw) w hw) (rdl_some h34).2.2))) ?_
          refine F.m rfl rfl rfl (wanted_none rfl) (m_alloc ti130) ?_
          rintro _ _ ⟨b4_1, rfl, rfl⟩
          refine F.ef0 rfl rfl (wanted_none rfl) (d_storeG0 (i := 0) (cs2 := [.int .i64 t34.1, .int .i64 t34.2.1, .int .i64 t34.2.2]) ti130 rfl rfl rfl rfl rfl (Nat.le_of_ble_eq_true rfl) (lf_cons rfl (lf_cons rfl (lf_cons rfl lf_nil)))) ?_
          rintro _ _ ⟨rfl, rfl⟩
          refine F.nil ?_
          refine Nrm.seq ?_
          refine Tri.seq ?_
          obtain ⟨y75, hE_3, hE_2⟩ := bind_some hE_2
          refine Tri.cut (fun e' C' => e' = [(1, .pointer (some ⟨b1_1, 0, none⟩)), (3, .int .i64 x3), (75, .bool y75)] ∧ C' = Sep w noM [R.box b1_1 31 [.int .i64 a0_0, va0_1, va0_2]]) ?_ (fun hj_2 => ?_)
          · rintro _ _ ⟨rfl, rfl⟩
            refine Nrm.seq ?_
            refine Tri.cond (b := y75) rfl (fun g_3 => ?_) (fun g_3 => ?_)
            · replace hE_2 := if_tt g_3 hE_2
              refine Tri.seq ?_
              refine Tri.reg (l := [0]) rfl ?_
              refine F.q rfl rfl rfl (wanted_none rfl) (r_assign rfl) ?_
              refine F.nil ?_
              refine Nrm.seq ?_
              refine Tri.ret ?_
              refine Rtn.block ?_
              refine Rtn.then ?_
              refine Rtn.then ?_
              refine Rtn.block ?_
              refine Rtn.then ?_
              cases hE_2
              replace h := Lr_inr h
              cases h
              exact Rtn.body (.tmp rfl .nil) (fun w hw => ⟨rfl, hw.ext⟩)
            · replace hE_2 := if_ff g_3 hE_2
              refine Tri.skip ?_
              refine Nrm.block ?_
              refine Nrm.seq ?_
              refine Tri.reg (l := [0, 1, 2]) rfl ?_
              refine F.q rfl rfl rfl (wanted_none rfl) (r_move rfl) ?_
              refine F.q rfl rfl rfl (wanted_none rfl) (r_add rfl rfl) ?_
              refine F.q rfl rfl rfl (wanted_none rfl) (r_assign rfl) ?_
              refine F.nil ?_
              refine Nrm.round ?_
              refine Rnd.only [1, 3] rfl ?_
              refine Rnd.pick [0] rfl rfl ?_
              exact ih_1 _ _ ⟨w64 (x3 + 1), hE_2, rfl, rfl⟩
          · obtain ⟨t41, h41, hE_3⟩ := bind_some hE_3
            rcases Bool.eq_false_or_eq_true (!t41) with g43 | g43
            · replace hE_3 := if_tt g43 hE_3
              refine Tri.drawA mixedT Sep.up [(0, true), (1, true), (2, true), (3, true), (4, true), (5, true), (6, true), (7, true), (8, true), (9, true), (10, true), (11, true), (12, true), (13, true), (14, true), (15, true), (16, true), (17, true), (18, true), (19, true), (20, true), (21, true), (22, true), (23, true), (24, true), (25, true), (26, true), (27, true), (28, true), (29, true), (30, true), (31, true), (32, true), (33, true), (34, true), (35, true), (36, true), (37, true), (38, true), (39, true)] [] (by kernel_rfl) ?_
              refine S.q rfl rfl rfl (wanted_none rfl) (r_indexAddrA Try.underlying130 ti3 rfl rfl (by decide) (by decide)) ?_
              refine S.q rfl rfl rfl (wanted_none rfl) (r_load ta3 rfl (fun w hw => cell_1 (box_cells (i := 0) rfl w hw) rfl)) ?_
              refine S.q rfl rfl rfl (wanted_none rfl) (r_fieldAddr tf31_0 rfl) ?_
              refine S.q rfl rfl rfl (wanted_none rfl) (r_load ta3 rfl (fun w hw => cell_1 (box_cells (i := 1) rfl w hw) rfl)) ?_
              refine S.q rfl rfl rfl (wanted_none rfl) (r_sub rfl rfl) ?_
              refine S.qc rfl rfl rfl (wanted_none rfl) (q_callF (xs := _) rfl ok104 rfl rfl (fun w hw => spec_l1In.ok h41 w )) ?_
              refine S.q rfl rfl rfl (wanted_none rfl) (r_not rfl) ?_
              refine S.q rfl rfl rfl (wanted_none rfl) (r_move rfl) ?_
              refine S.sk rfl rfl rfl (wf rfl rfl rfl g43) ?_
              refine S.sk rfl rfl rfl (wf rfl rfl rfl g43) ?_
              refine S.sk rfl rfl rfl (wf rfl rfl rfl g43) ?_
              refine S.sk rfl rfl rfl (wf rfl rfl rfl g43) ?_
              refine S.sk rfl rfl rfl (wf rfl rfl rfl g43) ?_
              refine S.sk rfl rfl rfl (wf rfl rfl rfl g43) ?_
              refine S.sk rfl rfl rfl (wf rfl rfl rfl g43) ?_
              refine S.sk rfl rfl rfl (wf rfl rfl rfl g43) ?_
              refine S.sk rfl rfl rfl (wf rfl rfl rfl g43) ?_
              refine S.sk rfl rfl rfl (wf rfl rfl rfl g43) ?_
              refine S.q rfl rfl rfl (wanted_none rfl) (r_pick rfl rfl g43) ?_
              refine S.q rfl rfl rfl (wanted_none rfl) (r_move rfl) ?_
              refine S.sk rfl rfl rfl (wf rfl rfl rfl rfl) ?_
              refine S.sk rfl rfl rfl (wf rfl rfl rfl rfl) ?_
              refine S.sk rfl rfl rfl (wf rfl rfl rfl rfl) ?_
              refine S.sk rfl rfl rfl (wf rfl rfl rfl rfl) ?_
              refine S.q rfl rfl rfl (wanted_none rfl) (r_pick rfl rfl rfl) ?_
              refine S.q rfl rfl rfl (wanted_none rfl) (r_move rfl) ?_
              refine S.sk rfl rfl rfl (wf rfl rfl rfl rfl) ?_
              refine S.sk rfl rfl rfl (wf rfl rfl rfl rfl) ?_
              refine S.sk rfl rfl rfl (wf rfl rfl rfl rfl) ?_
              refine S.sk rfl rfl rfl (wanted_undef rfl rfl rfl) ?_
              refine S.sk rfl rfl rfl (wanted_undef rfl rfl rfl) ?_
              refine S.sk rfl rfl rfl (wanted_undef rfl rfl rfl) ?_
              refine S.sk rfl rfl rfl (wanted_undef rfl rfl rfl) ?_
              refine S.sk rfl rfl rfl (wanted_undef rfl rfl rfl) ?_
              refine S.sk rfl rfl rfl (wanted_undef rfl rfl rfl) ?_
              refine S.sk rfl rfl rfl (wanted_undef rfl rfl rfl) ?_
              refine S.sk rfl rfl rfl (wanted_undef rfl rfl rfl) ?_
              refine S.sk rfl rfl rfl (wanted_undef rfl rfl rfl) ?_
              refine S.sk rfl rfl rfl (wf rfl rfl rfl rfl) ?_
              refine S.q rfl rfl rfl (wanted_none rfl) (r_pick rfl rfl rfl) ?_
              refine S.nil ?_
              refine F.nil ?_
              cases hE_3
              refine Nrm.only [1, 3, 75] rfl ?_
              refine Nrm.pick [1] rfl rfl ?_
              exact hj_2 _ _ ⟨rfl, rfl⟩
            · replace hE_3 := if_ff g43 hE_3
              obtain ⟨t52, h52, hE_3⟩ := bind_some hE_3
              rcases Bool.eq_false_or_eq_true (!t52) with g55 | g55
              · replace hE_3 := if_tt g55 hE_3
                refine Tri.drawA mixedT Sep.up [(0, true), (1, true), (2, true), (3, true), (4, true), (5, true), (6, true), (7, true), (8, true), (9, true), (10, true), (11, true), (12, true), (13, true), (14, true), (15, true), (16, true), (17, true), (18, true), (19, true), (20, true), (21, true), (22, true), (23, true), (24, true), (25, true), (26, true), (27, true), (28, true), (29, true), (30, true), (31, true), (32, true), (33, true), (34, true), (35, true), (36, true), (37, true), (38, true), (39, true)] [] (by kernel_rfl) ?_
                refine S.q rfl rfl rfl (wanted_none rfl) (r_indexAddrA Try.underlying130 ti3 rfl rfl (by decide) (by decide)) ?_
                refine S.q rfl rfl rfl (wanted_none rfl) (r_load ta3 rfl (fun w hw => cell_1 (box_cells (i := 0) rfl w hw) rfl)) ?_
                refine S.q rfl rfl rfl (wanted_none rfl) (r_fieldAddr tf31_0 rfl) ?_
                refine S.q rfl rfl rfl (wanted_none rfl) (r_load ta3 rfl (fun w hw => cell_1 (box_cells (i := 1) rfl w hw) rfl)) ?_
                refine S.q rfl rfl rfl (wanted_none rfl) (r_sub rfl rfl) ?_
                refine S.qc rfl rfl rfl (wanted_none rfl) (q_callF (xs := _) rfl ok104 rfl rfl (fun w hw => spec_l1In.ok h41 w )) ?_
                refine S.q rfl rfl rfl (wanted_none rfl) (r_not rfl) ?_
                refine S.q rfl rfl rfl (wanted_none rfl) (r_move rfl) ?_
                refine S.q rfl rfl rfl (wg rfl rfl rfl g43) (r_indexAddrA Try.underlying130 ti3 rfl rfl (by decide) (by decide)) ?_
                refine S.q rfl rfl rfl (wg rfl rfl rfl g43) (r_load ta3 rfl (fun w hw => cell_1 (box_cells (i := 0) rfl w hw) rfl)) ?_
                refine S.q rfl rfl rfl (wg rfl rfl rfl g43) (r_indexAddrA Try.underlying130 ti3 rfl rfl (by decide) (by decide)) ?_
                refine S.q rfl rfl rfl (wg rfl rfl rfl g43) (r_load ta3 rfl (fun w hw => cell_1 (box_cells (i := 0) rfl w hw) rfl)) ?_
                refine S.q rfl rfl rfl (wg rfl rfl rfl g43) (r_add rfl rfl) ?_
                refine S.q rfl rfl rfl (wg rfl rfl rfl g43) (r_fieldAddr tf31_0 rfl) ?_
                refine S.q rfl rfl rfl (wg rfl rfl rfl g43) (r_load ta3 rfl (fun w hw => cell_1 (box_cells (i := 1) rfl w hw) rfl)) ?_
                refine S.q rfl rfl rfl (wg rfl rfl rfl g43) (r_sub rfl rfl) ?_
                refine S.qc rfl rfl rfl (wg rfl rfl rfl g43) (q_callF (xs := _) rfl ok104 rfl rfl (fun w hw => spec_l1In.ok h52 w )) ?_
                refine S.q rfl rfl rfl (wg rfl rfl rfl g43) (r_not rfl) ?_
                refine S.q rfl rfl rfl (wanted_none rfl) (r_pickf rfl rfl g43) ?_
                refine S.q rfl rfl rfl (wanted_none rfl) (r_move rfl) ?_
                refine S.sk rfl rfl rfl (wf rfl rfl rfl g55) ?_
                refine S.sk rfl rfl rfl (wf rfl rfl rfl g55) ?_
                refine S.sk rfl rfl rfl (wf rfl rfl rfl g55) ?_
                refine S.sk rfl rfl rfl (wf rfl rfl rfl g55) ?_
                refine S.q rfl rfl rfl (wanted_none rfl) (r_pick rfl rfl g55) ?_
                refine S.q rfl rfl rfl (wanted_none rfl) (r_move rfl) ?_
                refine S.sk rfl rfl rfl (wf rfl rfl rfl rfl) ?_
                refine S.sk rfl rfl rfl (wf rfl rfl rfl rfl) ?_
                refine S.sk rfl rfl rfl (wf rfl rfl rfl rfl) ?_
                refine S.sk rfl rfl rfl (wanted_undef rfl rfl rfl) ?_
                refine S.sk rfl rfl rfl (wanted_undef rfl rfl rfl) ?_
                refine S.sk rfl rfl rfl (wanted_undef rfl rfl rfl) ?_
                refine S.sk rfl rfl rfl (wanted_undef rfl rfl rfl) ?_
                refine S.sk rfl rfl rfl (wanted_undef rfl rfl rfl) ?_
                refine S.sk rfl rfl rfl (wanted_undef rfl rfl rfl) ?_
                refine S.sk rfl rfl rfl (wanted_undef rfl rfl rfl) ?_
                refine S.sk rfl rfl rfl (wanted_undef rfl rfl rfl) ?_
                refine S.sk rfl rfl rfl (wanted_undef rfl rfl rfl) ?_
                refine S.sk rfl rfl rfl (wf rfl rfl rfl rfl) ?_
                refine S.q rfl rfl rfl (wanted_none rfl) (r_pick rfl rfl rfl) ?_
                refine S.nil ?_
                refine F.nil ?_
                cases hE_3
                refine Nrm.only [1, 3, 75] rfl ?_
                refine Nrm.pick [1] rfl rfl ?_
                exact hj_2 _ _ ⟨rfl, rfl⟩
              · replace hE_3 := if_ff g55 hE_3
                obtain ⟨t58, h58, hE_3⟩ := bind_some hE_3
                rcases Bool.eq_false_or_eq_true (!t58) with g61 | g61
                · replace hE_3 := if_tt g61 hE_3
                  refine Tri.drawA mixedT Sep.up [(0, true), (1, true), (2, true), (3, true), (4, true), (5, true), (6, true), (7, true), (8, true), (9, true), (10, true), (11, true), (12, true), (13, true), (14, true), (15, true), (16, true), (17, true), (18, true), (19, true), (20, true), (21, true), (22, true), (23, true), (24, true), (25, true), (26, true), (27, true), (28, true), (29, true), (30, true), (31, true), (32, true), (33, true), (34, true), (35, true), (36, true), (37, true), (38, true), (39, true)] [] (by kernel_rfl) ?_
                  refine S.q rfl rfl rfl (wanted_none rfl) (r_indexAddrA Try.underlying130 ti3 rfl rfl (by decide) (by decide)) ?_
                  refine S.q rfl rfl rfl (wanted_none rfl) (r_load ta3 rfl (fun w hw => cell_1 (box_cells (i := 0) rfl w hw) rfl)) ?_
                  refine S.q rfl rfl rfl (wanted_none rfl) (r_fieldAddr tf31_0 rfl) ?_
                  refine S.q rfl rfl rfl (wanted_none rfl) (r_load ta3 rfl (fun w hw => cell_1 (box_cells (i := 1) rfl w hw) rfl)) ?_
                  refine S.q rfl rfl rfl (wanted_none rfl) (r_sub rfl rfl) ?_
                  refine S.qc rfl rfl rfl (wanted_none rfl) (q_callF (xs := _) rfl ok104 rfl rfl (fun w hw => spec_l1In.ok h41 w )) ?_
                  refine S.q rfl rfl rfl (wanted_none rfl) (r_not rfl) ?_
                  refine S.q rfl rfl rfl (wanted_none rfl) (r_move rfl) ?_
                  refine S.q rfl rfl rfl (wg rfl rfl rfl g43) (r_indexAddrA Try.underlying130 ti3 rfl rfl (by decide) (by decide)) ?_
                  refine S.q rfl rfl rfl (wg rfl rfl rfl g43) (r_load ta3 rfl (fun w hw => cell_1 (box_cells (i := 0) rfl w hw) rfl)) ?_
                  refine S.q rfl rfl rfl (wg rfl rfl rfl g43) (r_indexAddrA Try.underlying130 ti3 rfl rfl (by decide) (by decide)) ?_
                  refine S.q rfl rfl rfl (wg rfl rfl rfl g43) (r_load ta3 rfl (fun w hw => cell_1 (box_cells (i := 0) rfl w hw) rfl)) ?_
                  refine S.q rfl rfl rfl (wg rfl rfl rfl g43) (r_add rfl rfl) ?_
                  refine S.q rfl rfl rfl (wg rfl rfl rfl g43) (r_fieldAddr tf31_0 rfl) ?_
                  refine S.q rfl rfl rfl (wg rfl rfl rfl g43) (r_load ta3 rfl (fun w hw => cell_1 (box_cells (i := 1) rfl w hw) rfl)) ?_
                  refine S.q rfl rfl rfl (wg rfl rfl rfl g43) (r_sub rfl rfl) ?_
                  refine S.qc rfl rfl rfl (wg rfl rfl rfl g43) (q_callF (xs := _) rfl ok104 rfl rfl (fun w hw => spec_l1In.ok h52 w )) ?_
                  refine S.q rfl rfl rfl (wg rfl rfl rfl g43) (r_not rfl) ?_
                  refine S.q rfl rfl rfl (wanted_none rfl) (r_pickf rfl rfl g43) ?_
                  refine S.q rfl rfl rfl (wanted_none rfl) (r_move rfl) ?_
                  refine S.q rfl rfl rfl (wg rfl rfl rfl g55) (r_indexAddrA Try.underlying130 ti3 rfl rfl (by decide) (by decide)) ?_
                  refine S.q rfl rfl rfl (wg rfl rfl rfl g55) (r_load ta3 rfl (fun w hw => cell_1 (box_cells (i := 0) rfl w hw) rfl)) ?_
                  refine S.qc rfl rfl rfl (wg rfl rfl rfl g55) (q_callF (xs := _) rfl ok118 rfl rfl (fun w hw => spec_l2Set.ok h58 w )) ?_
                  refine S.q rfl rfl rfl (wg rfl rfl rfl g55) (r_not rfl) ?_
                  refine S.q rfl rfl rfl (wanted_none rfl) (r_pickf rfl rfl g55) ?_
                  refine S.q rfl rfl rfl (wanted_none rfl) (r_move rfl) ?_
                  refine S.sk rfl rfl rfl (wf rfl rfl rfl g61) ?_
                  refine S.sk rfl rfl rfl (wf rfl rfl rfl g61) ?_
                  refine S.sk rfl rfl rfl (wf rfl rfl rfl g61) ?_
                  refine S.sk rfl rfl rfl (wanted_undef rfl rfl rfl) ?_
                  refine S.sk rfl rfl rfl (wanted_undef rfl rfl rfl) ?_
                  refine S.sk rfl rfl rfl (wanted_undef rfl rfl rfl) ?_
                  refine S.sk rfl rfl rfl (wanted_undef rfl rfl rfl) ?_
                  refine S.sk rfl rfl rfl (wanted_undef rfl rfl rfl) ?_
                  refine S.sk rfl rfl rfl (wanted_undef rfl rfl rfl) ?_
                  refine S.sk rfl rfl rfl (wanted_undef rfl rfl rfl) ?_
                  refine S.sk rfl rfl rfl (wanted_undef rfl rfl rfl) ?_
                  refine S.sk rfl rfl rfl (wanted_undef rfl rfl rfl) ?_
                  refine S.sk rfl rfl rfl (wf rfl rfl rfl g61) ?_
                  refine S.q rfl rfl rfl (wanted_none rfl) (r_pick rfl rfl g61) ?_
                  refine S.nil ?_
                  refine F.nil ?_
                  cases hE_3
                  refine Nrm.only [1, 3, 75] rfl ?_
                  refine Nrm.pick [1] rfl rfl ?_
                  exact hj_2 _ _ ⟨rfl, rfl⟩
                · replace hE_3 := if_ff g61 hE_3
                  rcases Bool.eq_false_or_eq_true (decide (x3 > 0)) with g64 | g64
                  · replace hE_3 := if_tt g64 hE_3
                    obtain ⟨t69, h69, hE_3⟩ := bind_some hE_3
                    obtain ⟨t72, h72, hE_3⟩ := bind_some hE_3
                    refine Tri.drawA mixedT Sep.up [(0, true), (1, true), (2, true), (3, true), (4, true), (5, true), (6, true), (7, true), (8, true), (9, true), (10, true), (11, true), (12, true), (13, true), (14, true), (15, true), (16, true), (17, true), (18, true), (19, true), (20, true), (21, true), (22, true), (23, true), (24, true), (25, true), (26, true), (27, true), (28, true), (29, true), (30, true), (31, true), (32, true), (33, true), (34, true), (35, true), (36, true), (37, true), (38, true), (39, true)] [] (by kernel_rfl) ?_
                    refine S.q rfl rfl rfl (wanted_none rfl) (r_indexAddrA Try.underlying130 ti3 rfl rfl (by decide) (by decide)) ?_
                    refine S.q rfl rfl rfl (wanted_none rfl) (r_load ta3 rfl (fun w hw => cell_1 (box_cells (i := 0) rfl w hw) rfl)) ?_
                    refine S.q rfl rfl rfl (wanted_none rfl) (r_fieldAddr tf31_0 rfl) ?_
                    refine S.q rfl rfl rfl (wanted_none rfl) (r_load ta3 rfl (fun w hw => cell_1 (box_cells (i := 1) rfl w hw) rfl)) ?_
                    refine S.q rfl rfl rfl (wanted_none rfl) (r_sub rfl rfl) ?_
                    refine S.qc rfl rfl rfl (wanted_none rfl) (q_callF (xs := _) rfl ok104 rfl rfl (fun w hw => spec_l1In.ok h41 w )) ?_
                    refine S.q rfl rfl rfl (wanted_none rfl) (r_not rfl) ?_
                    refine S.q rfl rfl rfl (wanted_none rfl) (r_move rfl) ?_
                    refine S.q rfl rfl rfl (wg rfl rfl rfl g43) (r_indexAddrA Try.underlying130 ti3 rfl rfl (by decide) (by decide)) ?_
                    refine S.q rfl rfl rfl (wg rfl rfl rfl g43) (r_load ta3 rfl (fun w hw => cell_1 (box_cells (i := 0) rfl w hw) rfl)) ?_
                    refine S.q rfl rfl rfl (wg rfl rfl rfl g43) (r_indexAddrA Try.underlying130 ti3 rfl rfl (by decide) (by decide)) ?_
                    refine S.q rfl rfl rfl (wg rfl rfl rfl g43) (r_load ta3 rfl (fun w hw => cell_1 (box_cells (i := 0) rfl w hw) rfl)) ?_
                    refine S.q rfl rfl rfl (wg rfl rfl rfl g43) (r_add rfl rfl) ?_
                    refine S.q rfl rfl rfl (wg rfl rfl rfl g43) (r_fieldAddr tf31_0 rfl) ?_
                    refine S.q rfl rfl rfl (wg rfl rfl rfl g43) (r_load ta3 rfl (fun w hw => cell_1 (box_cells (i := 1) rfl w hw) rfl)) ?_
                    refine S.q rfl rfl rfl (wg rfl rfl rfl g43) (r_sub rfl rfl) ?_
                    refine S.qc rfl rfl rfl (wg rfl rfl rfl g43) (q_callF (xs := _) rfl ok104 rfl rfl (fun w hw => spec_l1In.ok h52 w )) ?_
                    refine S.q rfl rfl rfl (wg rfl rfl rfl g43) (r_not rfl) ?_
                    refine S.q rfl rfl rfl (wanted_none rfl) (r_pickf rfl rfl g43) ?_
                    refine S.q rfl rfl rfl (wanted_none rfl) (r_move rfl) ?_
                    refine S.q rfl rfl rfl (wg rfl rfl rfl g55) (r_indexAddrA Try.underlying130 ti3 rfl rfl (by decide) (by decide)) ?_
                    refine S.q rfl rfl rfl (wg rfl rfl rfl g55) (r_load ta3 rfl (fun w hw => cell_1 (box_cells (i := 0) rfl w hw) rfl)) ?_
                    refine S.qc rfl rfl rfl (wg rfl rfl rfl g55) (q_callF (xs := _) rfl ok118 rfl rfl (fun w hw => spec_l2Set.ok h58 w )) ?_
                    refine S.q rfl rfl rfl (wg rfl rfl rfl g55) (r_not rfl) ?_
                    refine S.q rfl rfl rfl (wanted_none rfl) (r_pickf rfl rfl g55) ?_
                    refine S.q rfl rfl rfl (wanted_none rfl) (r_move rfl) ?_
                    refine S.q rfl rfl rfl (wg rfl rfl rfl g61) (r_move rfl) ?_
                    refine S.q rfl rfl rfl (wg rfl rfl rfl g61) (r_gtr rfl rfl) ?_
                    refine S.q rfl rfl rfl (wg rfl rfl rfl g61) (r_move rfl) ?_
                    refine S.q rfl rfl rfl (wg rfl rfl rfl g64) (r_fieldAddr tf31_1 rfl) ?_
                    refine S.q rfl rfl rfl (wg rfl rfl rfl g64) (r_load ta22 rfl (fun w hw => cell_1 (box_cells (i := 1) rfl w hw) rfl)) ?_
                    refine S.q rfl rfl rfl (wg rfl rfl rfl g64) (r_move rfl) ?_
                    refine S.q rfl rfl rfl (wg rfl rfl rfl g64) (r_sub rfl rfl) ?_
                    refine S.q rfl rfl rfl (wg rfl rfl rfl g64) (r_indexAddrS Try.underlying22 ti130 rfl hl_va0_1 rfl (rdl_some h69).1 (rdl_some h69).2.1) ?_
                    refine S.q rfl rfl rfl (wg rfl rfl rfl g64) (r_loadA ta130 ti130 rfl rfl (fun w hw => (Rd.flat ((fun _ hw => hr_a0_1.sep hw) w hw) (rdl_some h69).2.2))) ?_
                    refine S.q rfl rfl rfl (wg rfl rfl rfl g64) (r_loadA ta130 ti130 rfl rfl (fun w hw => (box_cells (i := 0) rfl w hw))) ?_
                    refine S.qc rfl rfl rfl (wg rfl rfl rfl g64) (q_callF (xs := _) rfl ok159 rfl rfl (fun w hw => spec_l2Before.ok h72 w )) ?_
                    refine S.q rfl rfl rfl (wg rfl rfl rfl g64) (r_not rfl) ?_
                    refine S.q rfl rfl rfl (wg rfl rfl rfl g61) (r_pick rfl rfl g64) ?_
                    refine S.q rfl rfl rfl (wanted_none rfl) (r_pickf rfl rfl g61) ?_
                    refine S.nil ?_
                    refine F.nil ?_
                    cases hE_3
                    refine Nrm.only [1, 3, 75] rfl ?_
                    refine Nrm.pick [1] rfl rfl ?_
                    exact hj_2 _ _ ⟨rfl, rfl⟩
                  · replace hE_3 := if_ff g64 hE_3
                    refine Tri.drawA mixedT Sep.up [(0, true), (1, true), (2, true), (3, true), (4, true), (5, true), (6, true), (7, true), (8, true), (9, true), (10, true), (11, true), (12, true), (13, true), (14, true), (15, true), (16, true), (17, true), (18, true), (19, true), (20, true), (21, true), (22, true), (23, true), (24, true), (25, true), (26, true), (27, true), (28, true), (29, true), (30, true), (31, true), (32, true), (33, true), (34, true), (35, true), (36, true), (37, true), (38, true), (39, true)] [] (by kernel_rfl) ?_
                    refine S.q rfl rfl rfl (wanted_none rfl) (r_indexAddrA Try.underlying130 ti3 rfl rfl (by decide) (by decide)) ?_
                    refine S.q rfl rfl rfl (wanted_none rfl) (r_load ta3 rfl (fun w hw => cell_1 (box_cells (i := 0) rfl w hw) rfl)) ?_
                    refine S.q rfl rfl rfl (wanted_none rfl) (r_fieldAddr tf31_0 rfl) ?_
                    refine S.q rfl rfl rfl (wanted_none rfl) (r_load ta3 rfl (fun w hw => cell_1 (box_cells (i := 1) rfl w hw) rfl)) ?_
                    refine S.q rfl rfl rfl (wanted_none rfl) (r_sub rfl rfl) ?_
                    refine S.qc rfl rfl rfl (wanted_none rfl) (q_callF (xs := _) rfl ok104 rfl rfl (fun w hw => spec_l1In.ok h41 w )) ?_
                    refine S.q rfl rfl rfl (wanted_none rfl) (r_not rfl) ?_
                    refine S.q rfl rfl rfl (wanted_none rfl) (r_move rfl) ?_
                    refine S.q rfl rfl rfl (wg rfl rfl rfl g43) (r_indexAddrA Try.underlying130 ti3 rfl rfl (by decide) (by decide)) ?_
                    refine S.q rfl rfl rfl (wg rfl rfl rfl g43) (r_load ta3 rfl (fun w hw => cell_1 (box_cells (i := 0) rfl w hw) rfl)) ?_
                    refine S.q rfl rfl rfl (wg rfl rfl rfl g43) (r_indexAddrA Try.underlying130 ti3 rfl rfl (by decide) (by decide)) ?_
                    refine S.q rfl rfl rfl (wg rfl rfl rfl g43) (r_load ta3 rfl (fun w hw => cell_1 (box_cells (i := 0) rfl w hw) rfl)) ?_
                    refine S.q rfl rfl rfl (wg rfl rfl rfl g43) (r_add rfl rfl) ?_
                    refine S.q rfl rfl rfl (wg rfl rfl rfl g43) (r_fieldAddr tf31_0 rfl) ?_
                    refine S.q rfl rfl rfl (wg rfl rfl rfl g43) (r_load ta3 rfl (fun w hw => cell_1 (box_cells (i := 1) rfl w hw) rfl)) ?_
                    refine S.q rfl rfl rfl (wg rfl rfl rfl g43) (r_sub rfl rfl) ?_
                    refine S.qc rfl rfl rfl (wg rfl rfl rfl g43) (q_callF (xs := _) rfl ok104 rfl rfl (fun w hw => spec_l1In.ok h52 w )) ?_
                    refine S.q rfl rfl rfl (wg rfl rfl rfl g43) (r_not rfl) ?_
                    refine S.q rfl rfl rfl (wanted_none rfl) (r_pickf rfl rfl g43) ?_
                    refine S.q rfl rfl rfl (wanted_none rfl) (r_move rfl) ?_
                    refine S.q rfl rfl rfl (wg rfl rfl rfl g55) (r_indexAddrA Try.underlying130 ti3 rfl rfl (by decide) (by decide)) ?_
                    refine S.q rfl rfl rfl (wg rfl rfl rfl g55) (r_load ta3 rfl (fun w hw => cell_1 (box_cells (i := 0) rfl w hw) rfl)) ?_
                    refine S.qc rfl rfl rfl (wg rfl rfl rfl g55) (q_callF (xs := _) rfl ok118 rfl rfl (fun w hw => spec_l2Set.ok h58 w )) ?_
                    refine S.q rfl rfl rfl (wg rfl rfl rfl g55) (r_not rfl) ?_
                    refine S.q rfl rfl rfl (wanted_none rfl) (r_pickf rfl rfl g55) ?_
                    refine S.q rfl rfl rfl (wanted_none rfl) (r_move rfl) ?_
                    refine S.q rfl rfl rfl (wg rfl rfl rfl g61) (r_move rfl) ?_
                    refine S.q rfl rfl rfl (wg rfl rfl rfl g61) (r_gtr rfl rfl) ?_
                    refine S.q rfl rfl rfl (wg rfl rfl rfl g61) (r_move rfl) ?_
                    refine S.sk rfl rfl rfl (wf rfl rfl rfl g64) ?_
                    refine S.sk rfl rfl rfl (wf rfl rfl rfl g64) ?_
                    refine S.sk rfl rfl rfl (wf rfl rfl rfl g64) ?_
                    refine S.sk rfl rfl rfl (wf rfl rfl rfl g64) ?_
                    refine S.sk rfl rfl rfl (wf rfl rfl rfl g64) ?_
                    refine S.sk rfl rfl rfl (wf rfl rfl rfl g64) ?_
                    refine S.sk rfl rfl rfl (wf rfl rfl rfl g64) ?_
                    refine S.sk rfl rfl rfl (wf rfl rfl rfl g64) ?_
                    refine S.sk rfl rfl rfl (wf rfl rfl rfl g64) ?_
                    refine S.q rfl rfl rfl (wg rfl rfl rfl g61) (r_pickf rfl rfl g64) ?_
                    refine S.q rfl rfl rfl (wanted_none rfl) (r_pickf rfl rfl g61) ?_
                    refine S.nil ?_
                    refine F.nil ?_
                    cases hE_3
                    refine Nrm.only [1, 3, 75] rfl ?_
                    refine Nrm.pick [1] rfl rfl ?_
                    exact hj_2 _ _ ⟨rfl, rfl⟩
        · replace hE_2 := if_ff g_2 hE_2
          refine Tri.exit ?_
          refine Exi.then ?_
          refine Exi.then ?_
          refine Exi.same ?_
          cases hE_2
          replace h := Lr_inl h
          refine Nrm.seq ?_
          refine Tri.seq ?_
          refine Tri.seq ?_
          refine Tri.reg (l := [0]) rfl ?_
          refine F.q rfl rfl rfl (wanted_none rfl) (r_assign rfl) ?_
          refine F.nil ?_
          refine Nrm.seq ?_
          obtain ⟨s1, hE_4, h⟩ := bind_some h
          refine Tri.block ?_
          refine Tri.only [1, 5] rfl ?_
          refine Tri.pick [0] rfl rfl ?_
          refine Tri.rounds (fun n e' C' => ∃ (x5' : Int), spec_l2Maze.l1 k a0_0 a0_2 n x5' = some s1 ∧ e' = [(1, .pointer (some ⟨b1_1, 0, none⟩)), (5, .int .i64 x5')] ∧ C' = Sep w noM [R.box b1_1 31 [.int .i64 a0_0, va0_1, va0_2]]) k ?_ ?_ ?_
          · exact ⟨0, hE_4, rfl, rfl⟩
          · rintro _ _ ⟨_, hE_4, _⟩
            rw [spec_l2Maze.l1.eq_1] at hE_4; cases hE_4
          · rintro n_2 _ _ ⟨x5, hE_4, rfl, rfl⟩ ih_2
            rw [spec_l2Maze.l1.eq_2] at hE_4
            refine Tri.seq ?_
            refine Tri.seq ?_
            refine Tri.reg (l := [0, 1, 2, 3]) rfl ?_
            refine F.q rfl rfl rfl (wanted_none rfl) (r_move rfl) ?_
            refine F.q rfl rfl rfl (wanted_none rfl) (r_fieldAddr tf31_0 rfl) ?_
            refine F.q rfl rfl rfl (wanted_none rfl) (r_load ta3 rfl (fun w hw => cell_1 (box_cells (i := 0) rfl w hw) rfl)) ?_
            refine F.q rfl rfl rfl (wanted_none rfl) (r_lss rfl rfl) ?_
            refine F.nil ?_
            refine Nrm.seq ?_
            refine Tri.cond (b := decide (x5 < a0_0)) rfl (fun g_4 => ?_) (fun g_4 => ?_)
            · replace hE_4 := if_tt g_4 hE_4
              refine Tri.skip ?_
              refine Nrm.seq ?_
              refine Tri.seq ?_
              refine Tri.block ?_
              refine Tri.seq ?_
              obtain ⟨t85, h85, hE_4⟩ := bind_some hE_4
              obtain ⟨t87, h87, hE_4⟩ := bind_some hE_4
              refine Tri.reg (l := [0, 1, 2, 3, 4, 5, 6]) rfl ?_
              refine F.q rfl rfl rfl (wanted_none rfl) (r_fieldAddr tf31_2 rfl) ?_
              refine F.q rfl rfl rfl (wanted_none rfl) (r_load ta23 rfl (fun w hw => cell_1 (box_cells (i := 0) rfl w hw) rfl)) ?_
              refine F.q rfl rfl rfl (wanted_none rfl) (r_move rfl) ?_
              refine F.q rfl rfl rfl (wanted_none rfl) (r_indexAddrS Try.underlying23 ti3 rfl hl_va0_2 rfl (rdl_some h85).1 (rdl_some h85).2.1) ?_
              refine F.q rfl rfl rfl (wanted_none rfl) (r_load ta3 rfl (fun w hw => cell_0 (Rd.flat ((fun _ hw => hr_a0_2.sep hw) w hw) (rdl_some h85).2.2) rfl)) ?_
              refine F.qc rfl rfl rfl (wanted_none rfl) (q_callF (xs := _) rfl ok118 rfl rfl (fun w hw => spec_l2Set.ok h87 w )) ?_
              refine F.q rfl rfl rfl (wanted_none rfl) (r_not rfl) ?_
              refine F.nil ?_
              refine Nrm.seq ?_
              refine Tri.cond (b := !t87) rfl (fun g_5 => ?_) (fun g_5 => ?_)
              · replace hE_4 := if_tt g_5 hE_4
                refine Tri.seq ?_
                refine Tri.reg (l := [0]) rfl ?_
                refine F.q rfl rfl rfl (wanted_none rfl) (r_assign rfl) ?_
                refine F.nil ?_
                refine Nrm.seq ?_
                refine Tri.ret ?_
                refine Rtn.block ?_
                refine Rtn.then ?_
                refine Rtn.then ?_
                refine Rtn.block ?_
                refine Rtn.then ?_
                cases hE_4
                replace h := Lr_inr h
                cases h
                exact Rtn.body (.tmp rfl .nil) (fun w hw => ⟨rfl, hw.ext⟩)
              · replace hE_4 := if_ff g_5 hE_4
                refine Tri.skip ?_
                refine Nrm.block ?_
                refine Nrm.seq ?_
                refine Tri.reg (l := [0, 1, 2]) rfl ?_
                refine F.q rfl rfl rfl (wanted_none rfl) (r_move rfl) ?_
                refine F.q rfl rfl rfl (wanted_none rfl) (r_add rfl rfl) ?_
                refine F.q rfl rfl rfl (wanted_none rfl) (r_assign rfl) ?_
                refine F.nil ?_
                refine Nrm.round ?_
                refine Rnd.only [1, 5] rfl ?_
                refine Rnd.pick [0] rfl rfl ?_
                exact ih_2 _ _ ⟨w64 (x5 + 1), hE_4, rfl, rfl⟩
            · replace hE_4 := if_ff g_4 hE_4
              refine Tri.exit ?_
              refine Exi.then ?_
              refine Exi.then ?_
              refine Exi.same ?_
              cases hE_4
              replace h := Lr_inl h
              refine Nrm.seq ?_
              refine Tri.seq ?_
              refine Tri.reg (l := [0]) rfl ?_
              refine F.q rfl rfl rfl (wanted_none rfl) (r_assign rfl) ?_
              refine F.nil ?_
              refine Nrm.seq ?_
              refine Tri.ret ?_
              cases h
              exact Rtn.body (.tmp rfl .nil) (fun w hw => ⟨rfl, hw.ext⟩)
  · obtain ⟨t8, h8, hE_1⟩ := bind_some hE_1
    rcases Bool.eq_false_or_eq_true (!t8) with g10 | g10
    · replace hE_1 := if_tt g10 hE_1
      refine Tri.reg (l := [0, 1, 2, 3, 4, 5, 6, 7, 8, 9, 10, 11, 12, 13, 14, 15, 16, 17]) rfl ?_
      refine F.q rfl rfl rfl (wanted_none rfl) (r_fieldAddr tf31_0 rfl) ?_
      refine F.q rfl rfl rfl (wanted_none rfl) (r_load ta3 rfl (fun w hw => cell_1 (box_cells (i := 0) rfl w hw) rfl)) ?_
      refine F.qc rfl rfl rfl (wanted_none rfl) (q_callF (xs := _) rfl ok104 rfl rfl (fun w hw => spec_l1In.ok h8 w )) ?_
      refine F.q rfl rfl rfl (wanted_none rfl) (r_not rfl) ?_
      refine F.q rfl rfl rfl (wanted_none rfl) (r_move rfl) ?_
      refine F.sk rfl rfl rfl (wf rfl rfl rfl g10) ?_
      refine F.sk rfl rfl rfl (wf rfl rfl rfl g10) ?_
      refine F.sk rfl rfl rfl (wf rfl rfl rfl g10) ?_
      refine F.sk rfl rfl rfl (wf rfl rfl rfl g10) ?_
      refine F.q rfl rfl rfl (wanted_none rfl) (r_pick rfl rfl g10) ?_
      refine F.q rfl rfl rfl (wanted_none rfl) (r_move rfl) ?_
      refine F.sk rfl rfl rfl (wf rfl rfl rfl rfl) ?_
      refine F.sk rfl rfl rfl (wf rfl rfl rfl rfl) ?_
      refine F.sk rfl rfl rfl (wf rfl rfl rfl rfl) ?_
      refine F.sk rfl rfl rfl (wf rfl rfl rfl rfl) ?_
      refine F.sk rfl rfl rfl (wf rfl rfl rfl rfl) ?_
      refine F.sk rfl rfl rfl (wf rfl rfl rfl rfl) ?_
      refine F.q rfl rfl rfl (wanted_none rfl) (r_pick rfl rfl rfl) ?_
      refine F.nil ?_
      cases hE_1
      refine Nrm.only [1, 23] rfl ?_
      refine Nrm.pick [0] rfl rfl ?_
      exact hj_1 _ _ ⟨rfl, rfl⟩
    · replace hE_1 := if_ff g10 hE_1
      rcases Bool.eq_false_or_eq_true (decide ((a0_1.length : Int) > 30)) with g16 | g16
      · replace hE_1 := if_tt g16 hE_1
        refine Tri.reg (l := [0, 1, 2, 3, 4, 5, 6, 7, 8, 9, 10, 11, 12, 13, 14, 15, 16, 17]) rfl ?_
        refine F.q rfl rfl rfl (wanted_none rfl) (r_fieldAddr tf31_0 rfl) ?_
        refine F.q rfl rfl rfl (wanted_none rfl) (r_load ta3 rfl (fun w hw => cell_1 (box_cells (i := 0) rfl w hw) rfl)) ?_
        refine F.qc rfl rfl rfl (wanted_none rfl) (q_callF (xs := _) rfl ok104 rfl rfl (fun w hw => spec_l1In.ok h8 w )) ?_
        refine F.q rfl rfl rfl (wanted_none rfl) (r_not rfl) ?_
        refine F.q rfl rfl rfl (wanted_none rfl) (r_move rfl) ?_
        refine F.q rfl rfl rfl (wg rfl rfl rfl g10) (r_fieldAddr tf31_1 rfl) ?_
        refine F.q rfl rfl rfl (wg rfl rfl rfl g10) (r_load ta22 rfl (fun w hw => cell_1 (box_cells (i := 0) rfl w hw) rfl)) ?_
        refine F.q rfl rfl rfl (wg rfl rfl rfl g10) (r_len Try.underlying22 rfl hl_va0_1) ?_
        refine F.q rfl rfl rfl (wg rfl rfl rfl g10) (r_gtr rfl rfl) ?_
        refine F.q rfl rfl rfl (wanted_none rfl) (r_pickf rfl rfl g10) ?_
        refine F.q rfl rfl rfl (wanted_none rfl) (r_move rfl) ?_
        refine F.sk rfl rfl rfl (wf rfl rfl rfl g16) ?_
        refine F.sk rfl rfl rfl (wf rfl rfl rfl g16) ?_
        refine F.sk rfl rfl rfl (wf rfl rfl rfl g16) ?_
        refine F.sk rfl rfl rfl (wf rfl rfl rfl g16) ?_
        refine F.sk rfl rfl rfl (wf rfl rfl rfl g16) ?_
        refine F.sk rfl rfl rfl (wf rfl rfl rfl g16) ?_
        refine F.q rfl rfl rfl (wanted_none rfl) (r_pick rfl rfl g16) ?_
        refine F.nil ?_
        cases hE_1
        refine Nrm.only [1, 23] rfl ?_
        refine Nrm.pick [0] rfl rfl ?_
        exact hj_1 _ _ ⟨rfl, rfl⟩
      · replace hE_1 := if_ff g16 hE_1
        refine Tri.reg (l := [0, 1, 2, 3, 4, 5, 6, 7, 8, 9, 10, 11, 12, 13, 14, 15, 16, 17]) rfl ?_
        refine F.q rfl rfl rfl (wanted_none rfl) (r_fieldAddr tf31_0 rfl) ?_
        refine F.q rfl rfl rfl (wanted_none rfl) (r_load ta3 rfl (fun w hw => cell_1 (box_cells (i := 0) rfl w hw) rfl)) ?_
        refine F.qc rfl rfl rfl (wanted_none rfl) (q_callF (xs := _) rfl ok104 rfl rfl (fun w hw => spec_l1In.ok h8 w )) ?_
        refine F.q rfl rfl rfl (wanted_none rfl) (r_not rfl) ?_
        refine F.q rfl rfl rfl (wanted_none rfl) (r_move rfl) ?_
        refine F.q rfl rfl rfl (wg rfl rfl rfl g10) (r_fieldAddr tf31_1 rfl) ?_
        refine F.q rfl rfl rfl (wg rfl rfl rfl g10) (r_load ta22 rfl (fun w hw => cell_1 (box_cells (i := 0) rfl w hw) rfl)) ?_
        refine F.q rfl rfl rfl (wg rfl rfl rfl g10) (r_len Try.underlying22 rfl hl_va0_1) ?_
        refine F.q rfl rfl rfl (wg rfl rfl rfl g10) (r_gtr rfl rfl) ?_
        refine F.q rfl rfl rfl (wanted_none rfl) (r_pickf rfl rfl g10) ?_
        refine F.q rfl rfl rfl (wanted_none rfl) (r_move rfl) ?_
        refine F.q rfl rfl rfl (wg rfl rfl rfl g16) (r_fieldAddr tf31_2 rfl) ?_
        refine F.q rfl rfl rfl (wg rfl rfl rfl g16) (r_load ta23 rfl (fun w hw => cell_1 (box_cells (i := 0) rfl w hw) rfl)) ?_
        refine F.q rfl rfl rfl (wg rfl rfl rfl g16) (r_len Try.underlying23 rfl hl_va0_2) ?_
        refine F.q rfl rfl rfl (wg rfl rfl rfl g16) (r_fieldAddr tf31_0 rfl) ?_
        refine F.q rfl rfl rfl (wg rfl rfl rfl g16) (r_load ta3 rfl (fun w hw => cell_1 (box_cells (i := 0) rfl w hw) rfl)) ?_
        refine F.q rfl rfl rfl (wg rfl rfl rfl g16) (r_neq rfl rfl) ?_
        refine F.q rfl rfl rfl (wanted_none rfl) (r_pickf rfl rfl g16) ?_
        refine F.nil ?_
        cases hE_1
        refine Nrm.only [1, 23] rfl ?_
        refine Nrm.pick [0] rfl rfl ?_
        exact hj_1 _ _ ⟨rfl, rfl⟩

end Go.Proofs

/- loop.example/g01158/spec.l3Ask -/
namespace Go.Proofs
open Go Go.Ga
set_option linter.unusedVariables false
set_option maxRecDepth 100000
set_option maxHeartbeats 4000000
def spec_l3Ask.f (k : Nat) (a0_0 : Int) (a0_1 : List (Int × Int × Int)) (a0_2 : List Int) (a1 : Int) : Option (Bool) := ((spec_l2Maze.f k a0_0 a0_1 a0_2).bind fun t6 => (if t6 = true then (spec_l2Set.f k a1).bind fun t9 => some t9 else some false)).bind fun y4 => some y4

theorem spec_l3Ask.ok {k : Nat}  {a0_0 : Int} {a0_1 : List (Int × Int × Int)} {a0_2 : List Int} {a1 : Int} {r0 : Bool} (h : spec_l3Ask.f k a0_0 a0_1 a0_2 a1 = some r0) (w : World) {va0_1 : Value} {va0_2 : Value} (hr_a0_1 : Rd w va0_1 a0_1) (hr_a0_2 : Rd w va0_2 a0_2) :
    Calls Try.prog 124 ([.agg ([.int .i64 a0_0, va0_1, va0_2].toArray), .int .i64 a1] : List Value).toArray w (fun e w' => e = .returned (.bool r0) ∧ Ext w w') := by
  unfold spec_l3Ask.f at h
  have hl_va0_1 := hr_a0_1.len
  have hl_va0_2 := hr_a0_2.len
  refine Calls.of_tri (N := 11) Try.func124 rfl rfl rfl (Sep.nil (M := noM)) ?_
  refine Tri.seq ?_
  refine Tri.reg (l := [0, 1]) rfl ?_
  refine F.m rfl rfl rfl (wanted_none rfl) (m_boxG rfl rfl) ?_
  rintro _ _ ⟨b2_1, rfl, rfl⟩
  refine F.q rfl rfl rfl (wanted_none rfl) (r_assign rfl) ?_
  refine F.nil ?_
  refine Nrm.seq ?_
  refine Tri.seq ?_
  obtain ⟨y4, hE_1, h⟩ := bind_some h
  refine Tri.cut (fun e' C' => e' = [(4, .bool y4)] ∧ C' = Sep w noM []) ?_ (fun hj_1 => ?_)
  · rintro _ _ ⟨rfl, rfl⟩
    refine Nrm.seq ?_
    refine Tri.ret ?_
    cases h
    exact Rtn.body (.tmp rfl .nil) (fun w hw => ⟨rfl, hw.ext⟩)
  · obtain ⟨t6, h6, hE_1⟩ := bind_some hE_1
    rcases Bool.eq_false_or_eq_true (t6) with g7 | g7
    · replace hE_1 := if_tt g7 hE_1
      obtain ⟨t9, h9, hE_1⟩ := bind_some hE_1
      refine Tri.reg (l := [0, 1, 2, 3, 4, 5, 6]) rfl ?_
      refine F.q rfl rfl rfl (wanted_none rfl) (r_loadA ta31 ti31 rfl rfl (fun w hw => (box_cells (i := 0) rfl w hw))) ?_
      refine F.qc rfl rfl rfl (wanted_none rfl) (q_callF (xs := _) rfl ok134 rfl rfl (fun w hw => spec_l2Maze.ok h6 w ((fun _ hw => hr_a0_1.sep hw) w hw) ((fun _ hw => hr_a0_2.sep hw) w hw))) ?_
      refine F.q rfl rfl rfl (wanted_none rfl) (r_move rfl) ?_
      refine F.q rfl rfl rfl (wg rfl rfl rfl g7) (r_move rfl) ?_
      refine F.qc rfl rfl rfl (wg rfl rfl rfl g7) (q_callF (xs := _) rfl ok118 rfl rfl (fun w hw => spec_l2Set.ok h9 w )) ?_
      refine F.q rfl rfl rfl (wanted_none rfl) (r_pick rfl rfl g7) ?_
      refine F.q rfl rfl rfl (wanted_none rfl) (r_assign rfl) ?_
      refine F.nil ?_
      cases hE_1
      refine Nrm.only [4] rfl ?_
      refine Nrm.pick [] rfl rfl ?_
      exact hj_1 _ _ ⟨rfl, rfl⟩
    · replace hE_1 := if_ff g7 hE_1
      refine Tri.reg (l := [0, 1, 2, 3, 4, 5, 6]) rfl ?_
      refine F.q rfl rfl rfl (wanted_none rfl) (r_loadA ta31 ti31 rfl rfl (fun w hw => (box_cells (i := 0) rfl w hw))) ?_
      refine F.qc rfl rfl rfl (wanted_none rfl) (q_callF (xs := _) rfl ok134 rfl rfl (fun w hw => spec_l2Maze.ok h6 w ((fun _ hw => hr_a0_1.sep hw) w hw) ((fun _ hw => hr_a0_2.sep hw) w hw))) ?_
      refine F.q rfl rfl rfl (wanted_none rfl) (r_move rfl) ?_
      refine F.sk rfl rfl rfl (wf rfl rfl rfl g7) ?_
      refine F.sk rfl rfl rfl (wf rfl rfl rfl g7) ?_
      refine F.q rfl rfl rfl (wanted_none rfl) (r_pickf rfl rfl g7) ?_
      refine F.q rfl rfl rfl (wanted_none rfl) (r_assign rfl) ?_
      refine F.nil ?_
      cases hE_1
      refine Nrm.only [4] rfl ?_
      refine Nrm.pick [] rfl rfl ?_
      exact hj_1 _ _ ⟨rfl, rfl⟩

end Go.Proofs

/- loop.example/g01158/spec.l3Can -/
namespace Go.Proofs
open Go Go.Ga
set_option linter.unusedVariables false
set_option maxRecDepth 100000
set_option maxHeartbeats 4000000
def spec_l3Can.f (k : Nat) (a0_0 : Int) (a0_1 : List (Int × Int × Int)) (a0_2 : List Int) (a1 : Int) : Option (Bool) := ((spec_l3Ask.f k a0_0 a0_1 a0_2 a1).bind fun t7 => (if t7 = true then (spec_l3Wins.f k a0_0 a0_1 a0_2 a1).bind fun t11 => some t11 else some false)).bind fun y4 => some y4

theorem spec_l3Can.ok {k : Nat}  {a0_0 : Int} {a0_1 : List (Int × Int × Int)} {a0_2 : List Int} {a1 : Int} {r0 : Bool} (h : spec_l3Can.f k a0_0 a0_1 a0_2 a1 = some r0) (w : World) {va0_1 : Value} {va0_2 : Value} (hr_a0_1 : Rd w va0_1 a0_1) (hr_a0_2 : Rd w va0_2 a0_2) :
    Calls Try.prog 73 ([.agg ([.int .i64 a0_0, va0_1, va0_2].toArray), .int .i64 a1] : List Value).toArray w (fun e w' => e = .returned (.bool r0) ∧ Ext w w') := by
  unfold spec_l3Can.f at h
  have hl_va0_1 := hr_a0_1.len
  have hl_va0_2 := hr_a0_2.len
  refine Calls.of_tri (N := 13) Try.func73 rfl rfl rfl (Sep.nil (M := noM)) ?_
  refine Tri.seq ?_
  refine Tri.reg (l := [0, 1]) rfl ?_
  refine F.m rfl rfl rfl (wanted_none rfl) (m_boxG rfl rfl) ?_
  rintro _ _ ⟨b2_1, rfl, rfl⟩
  refine F.q rfl rfl rfl (wanted_none rfl) (r_assign rfl) ?_
  refine F.nil ?_
  refine Nrm.seq ?_
  refine Tri.seq ?_
  obtain ⟨y4, hE_1, h⟩ := bind_some h
  refine Tri.cut (fun e' C' => e' = [(4, .bool y4)] ∧ C' = Sep w noM []) ?_ (fun hj_1 => ?_)
  · rintro _ _ ⟨rfl, rfl⟩
    refine Nrm.seq ?_
    refine Tri.ret ?_
    cases h
    exact Rtn.body (.tmp rfl .nil) (fun w hw => ⟨rfl, hw.ext⟩)
  · obtain ⟨t7, h7, hE_1⟩ := bind_some hE_1
    rcases Bool.eq_false_or_eq_true (t7) with g8 | g8
    · replace hE_1 := if_tt g8 hE_1
      obtain ⟨t11, h11, hE_1⟩ := bind_some hE_1
      refine Tri.reg (l := [0, 1, 2, 3, 4, 5, 6, 7, 8]) rfl ?_
      refine F.q rfl rfl rfl (wanted_none rfl) (r_loadA ta31 ti31 rfl rfl (fun w hw => (box_cells (i := 0) rfl w hw))) ?_
      refine F.q rfl rfl rfl (wanted_none rfl) (r_move rfl) ?_
      refine F.qc rfl rfl rfl (wanted_none rfl) (q_callF (xs := _) rfl ok124 rfl rfl (fun w hw => spec_l3Ask.ok h7 w ((fun _ hw => hr_a0_1.sep hw) w hw) ((fun _ hw => hr_a0_2.sep hw) w hw))) ?_
      refine F.q rfl rfl rfl (wanted_none rfl) (r_move rfl) ?_
      refine F.q rfl rfl rfl (wg rfl rfl rfl g8) (r_loadA ta31 ti31 rfl rfl (fun w hw => (box_cells (i := 0) rfl w hw))) ?_
      refine F.q rfl rfl rfl (wg rfl rfl rfl g8) (r_move rfl) ?_
      refine F.qc rfl rfl rfl (wg rfl rfl rfl g8) (q_callF (xs := _) rfl ok74 rfl rfl (fun w hw => spec_l3Wins.ok h11 w ((fun _ hw => hr_a0_1.sep hw) w hw) ((fun _ hw => hr_a0_2.sep hw) w hw))) ?_
      refine F.q rfl rfl rfl (wanted_none rfl) (r_pick rfl rfl g8) ?_
      refine F.q rfl rfl rfl (wanted_none rfl) (r_assign rfl) ?_
      refine F.nil ?_
      cases hE_1
      refine Nrm.only [4] rfl ?_
      refine Nrm.pick [] rfl rfl ?_
      exact hj_1 _ _ ⟨rfl, rfl⟩
    · replace hE_1 := if_ff g8 hE_1
      refine Tri.reg (l := [0, 1, 2, 3, 4, 5, 6, 7, 8]) rfl ?_
      refine F.q rfl rfl rfl (wanted_none rfl) (r_loadA ta31 ti31 rfl rfl (fun w hw => (box_cells (i := 0) rfl w hw))) ?_
      refine F.q rfl rfl rfl (wanted_none rfl) (r_move rfl) ?_
      refine F.qc rfl rfl rfl (wanted_none rfl) (q_callF (xs := _) rfl ok124 rfl rfl (fun w hw => spec_l3Ask.ok h7 w ((fun _ hw => hr_a0_1.sep hw) w hw) ((fun _ hw => hr_a0_2.sep hw) w hw))) ?_
      refine F.q rfl rfl rfl (wanted_none rfl) (r_move rfl) ?_
      refine F.sk rfl rfl rfl (wf rfl rfl rfl g8) ?_
      refine F.sk rfl rfl rfl (wf rfl rfl rfl g8) ?_
      refine F.sk rfl rfl rfl (wf rfl rfl rfl g8) ?_
      refine F.q rfl rfl rfl (wanted_none rfl) (r_pickf rfl rfl g8) ?_
      refine F.q rfl rfl rfl (wanted_none rfl) (r_assign rfl) ?_
      refine F.nil ?_
      cases hE_1
      refine Nrm.only [4] rfl ?_
      refine Nrm.pick [] rfl rfl ?_
      exact hj_1 _ _ ⟨rfl, rfl⟩

end Go.Proofs

/- loop.example/g01158/spec.l1Own -/

namespace Go.Proofs
open Go Go.Ga
set_option linter.unusedVariables false
set_option maxRecDepth 100000
set_option maxHeartbeats 4000000
def spec_l1Own.f (k : Nat) (a0 : List Int) : Option ((List Int)) := if (([] : List (Int)) ++ a0).length < 1099511627776 then some (([] : List (Int)) ++ a0) else none

theorem spec_l1Own.ok {k : Nat}  {a0 : List Int} {r0 : List Int} (h : spec_l1Own.f k a0 = some r0) (w : World) {va0 : Value} (hr_a0 : Rd w va0 a0) :
    Calls Try.prog 141 ([va0] : List Value).toArray w (Post (fun u ns => ∃ (Sr0 : Nat → Prop), SlLen u r0.length ∧ ns = [R.sl Sr0 u r0]) w) := by
  unfold spec_l1Own.f at h
  have hl_va0 := hr_a0.len
  refine Calls.of_tri (N := 6) Try.func141 rfl rfl rfl (Sep.nil (M := noM)) ?_
  refine Tri.seq ?_
  refine Tri.reg (l := [0]) rfl ?_
  refine F.q rfl rfl rfl (wanted_none rfl) (r_assign rfl) ?_
  refine F.nil ?_
  refine Nrm.seq ?_
  refine Tri.seq ?_
  obtain ⟨hs5, h⟩ := ck h
  refine Tri.reg (l := [0, 1, 2, 3]) rfl ?_
  refine F.m rfl rfl rfl (wanted_none rfl) (m_build0 (α := Int) Try.underlying23 ti3) ?_
  rintro v3_1 _ ⟨S3_1, hl_v3_1, rfl⟩
  refine F.q rfl rfl rfl (wanted_none rfl) (r_move rfl) ?_
  refine F.ef rfl rfl rfl (wanted_none rfl) (d_append (i := 0) Try.underlying23 Try.underlying23 ti3 rfl (by decide) rfl rfl rfl (fun _ hw => hr_a0.sep hw) hs5) ?_
  rintro v5_1 _ ⟨S5_1, rfl, hl_v5_1⟩
  refine F.q rfl rfl rfl (wanted_none rfl) (r_assign rfl) ?_
  refine F.nil ?_
  refine Nrm.seq ?_
  refine Tri.ret ?_
  cases h
  exact Rtn.body (.tmp rfl .nil) (fun w hw => ⟨_, _, rfl, ⟨S5_1, hl_v5_1, rfl⟩, Sep.pick (is := [0]) rfl rfl hw⟩)

end Go.Proofs

/- loop.example/g01158/spec.l2Own -/
namespace Go.Proofs
open Go Go.Ga
set_option linter.unusedVariables false
set_option maxRecDepth 100000
set_option maxHeartbeats 4000000
def spec_l2Own.f (k : Nat) (a0_0 : Int) (a0_1 : List (Int × Int × Int)) (a0_2 : List Int) : Option (Int × (List (Int × Int × Int)) × (List Int)) := if (([] : List (Int × Int × Int)) ++ a0_1).length < 1099511627776 then (spec_l1Own.f k a0_2).bind fun t11 => some (a0_0, ([] : List (Int × Int × Int)) ++ a0_1, t11) else none

theorem spec_l2Own.ok {k : Nat}  {a0_0 : Int} {a0_1 : List (Int × Int × Int)} {a0_2 : List Int} {r0 : Int} {r1 : List (Int × Int × Int)} {r2 : List Int} (h : spec_l2Own.f k a0_0 a0_1 a0_2 = some (r0, r1, r2)) (w : World) {va0_1 : Value} {va0_2 : Value} (hr_a0_1 : Rd w va0_1 a0_1) (hr_a0_2 : Rd w va0_2 a0_2) :
    Calls Try.prog 126 ([.agg ([.int .i64 a0_0, va0_1, va0_2].toArray)] : List Value).toArray w (Post (fun u ns => ∃ (ur1 : Value) (Sr1 : Nat → Prop) (ur2 : Value) (Sr2 : Nat → Prop), u = .agg [.int .i64 r0, ur1, ur2].toArray ∧ SlLen ur1 r1.length ∧ SlLen ur2 r2.length ∧ ns = [R.sl Sr1 ur1 r1, R.sl Sr2 ur2 r2]) w) := by
  unfold spec_l2Own.f at h
  have hl_va0_1 := hr_a0_1.len
  have hl_va0_2 := hr_a0_2.len
  refine Calls.of_tri (N := 13) Try.func126 rfl rfl rfl (Sep.nil (M := noM)) ?_
  refine Tri.seq ?_
  refine Tri.reg (l := [0, 1]) rfl ?_
  refine F.m rfl rfl rfl (wanted_none rfl) (m_boxG rfl rfl) ?_
  rintro _ _ ⟨b1_1, rfl, rfl⟩
  refine F.m rfl rfl rfl (wanted_none rfl) (m_alloc ti31) ?_
  rintro _ _ ⟨b2_1, rfl, rfl⟩
  refine F.nil ?_
  refine Nrm.seq ?_
  refine Tri.seq ?_
  obtain ⟨hs8, h⟩ := ck h
  obtain ⟨t11, h11, h⟩ := bind_some h
  refine Tri.drawB mixedT Sep.up [(0, true), (1, true), (3, true), (4, true), (6, true), (7, true), (2, false), (5, false), (8, false)] [9, 10] (by kernel_rfl) ?_
  refine B.q rfl rfl rfl (wanted_none rfl) (r_fieldAddr tf31_0 rfl) ?_
  refine B.q rfl rfl rfl (wanted_none rfl) (r_load ta3 rfl (fun w hw => cell_1 (box_cells (i := 1) rfl w hw) rfl)) ?_
  refine B.q rfl rfl rfl (wanted_none rfl) (r_fieldAddr tf31_1 rfl) ?_
  refine B.q rfl rfl rfl (wanted_none rfl) (r_load ta22 rfl (fun w hw => cell_1 (box_cells (i := 1) rfl w hw) rfl)) ?_
  refine B.q rfl rfl rfl (wanted_none rfl) (r_fieldAddr tf31_2 rfl) ?_
  refine B.q rfl rfl rfl (wanted_none rfl) (r_load ta23 rfl (fun w hw => cell_1 (box_cells (i := 1) rfl w hw) rfl)) ?_
  refine B.ef rfl rfl rfl (wanted_none rfl) (Makes.does (m_build0 (α := Int × Int × Int) Try.underlying22 ti130)) (by rintro v5_2 _ ⟨S5_2, hl_v5_2, rfl⟩; exact upd rfl [1, 2] rfl rfl) ?_
  rintro v5_2 _ ⟨S5_2, hl_v5_2, rfl⟩
  refine B.ef rfl rfl rfl (wanted_none rfl) (d_append (i := 0) Try.underlying22 Try.underlying22 ti130 rfl (by decide) rfl rfl rfl (fun _ hw => hr_a0_1.sep hw) hs8) (by rintro v8_2 _ ⟨S8_2, rfl, hl_v8_2⟩; exact upd rfl [1, 2] rfl rfl) ?_
  rintro v8_2 _ ⟨S8_2, rfl, hl_v8_2⟩
  refine B.ef rfl rfl rfl (wanted_none rfl) (Makes.does (m_callF (xs := _) rfl ok141 rfl rfl (fun w hw => spec_l1Own.ok h11 w ((fun _ hw => hr_a0_2.sep hw) w hw)))) (by rintro v11_2 _ ⟨_, ⟨S11_2, hl_v11_2, rfl⟩, rfl⟩; exact upd rfl [2, 3] rfl rfl) ?_
  rintro v11_2 _ ⟨_, ⟨S11_2, hl_v11_2, rfl⟩, rfl⟩
  refine B.nil ?_
  refine F.q rfl rfl rfl (wanted_none rfl) (r_build (pl := [(0, 1), (1, 1), (2, 1)]) (qs := [(0, [.int .i64 a0_0]), (1, [v8_2]), (2, [v11_2])]) (cs := [.int .i64 a0_0, v8_2, v11_2]) (by kernel_rfl) ti31 rfl (.cons rfl rfl (Nat.le_of_ble_eq_true rfl) (.cons (sl_cells hl_v8_2) rfl (Nat.le_of_ble_eq_true rfl) (.cons (sl_cells hl_v11_2) rfl (Nat.le_of_ble_eq_true rfl) .nil))) rfl rfl) ?_
  refine F.ef0 rfl rfl (wanted_none rfl) (d_storeG0 (i := 2) (cs2 := [.int .i64 a0_0, v8_2, v11_2]) ti31 rfl rfl rfl rfl rfl (Nat.le_of_ble_eq_true rfl) (lf_cons rfl (lf_cons (sl_leaf hl_v8_2) (lf_cons (sl_leaf hl_v11_2) lf_nil)))) ?_
  rintro _ _ ⟨rfl, rfl⟩
  refine F.nil ?_
  refine Nrm.seq ?_
  refine Tri.ret ?_
  cases h
  exact Rtn.body (.cell rfl ta31 ti31 rfl (fun _ hw => box_cells (i := 2) rfl _ hw) .nil) (fun w hw => ⟨_, _, rfl, ⟨v8_2, S8_2, v11_2, S11_2, rfl, hl_v8_2, hl_v11_2, rfl⟩, Sep.pick (is := [1, 0]) rfl rfl hw⟩)

end Go.Proofs

/- loop.example/g01158/spec.l3Node -/
namespace Go.Proofs
open Go Go.Ga
set_option linter.unusedVariables false
set_option maxRecDepth 100000
set_option maxHeartbeats 4000000
def spec_l3Node.l0 (k : Nat) (a0_1 : List (Int × Int × Int)) (a1 : Int) : Nat → Int → (List (Int × Int × Int)) → Option ((List (Int × Int × Int)))
  | 0, _, _ => none
  | n + 1, x6, xq5_1_1 => (if (decide (x6 < (a0_1.length : Int))) = true then ((rdl a0_1 x6).bind fun t21 => (if (t21.1 != a1) = true then (rdl a0_1 x6).bind fun t30 => some (t30.2.1 != a1) else some false)).bind fun y35 => ((if y35 = true then (rdl a0_1 x6).bind fun t41 => if (xq5_1_1 ++ ([t41] : List (Int × Int × Int))).length < 1099511627776 then some (xq5_1_1 ++ ([t41] : List (Int × Int × Int))) else none else some xq5_1_1)).bind fun yb5_1_1 => spec_l3Node.l0 k a0_1 a1 n (w64 (x6 + 1)) yb5_1_1 else some xq5_1_1)

def spec_l3Node.f (k : Nat) (a0_0 : Int) (a0_1 : List (Int × Int × Int)) (a0_2 : List Int) (a1 : Int) : Option (Int × (List (Int × Int × Int)) × (List Int)) := (spec_l2Own.f k a0_0 a0_1 a0_2).bind fun (t8_1, t8_2, t8_3) => (spec_l3Node.l0 k a0_1 a1 k 0 ([] : List (Int × Int × Int))).bind fun xq5_1_1 => some (t8_1, xq5_1_1, t8_3)

theorem spec_l3Node.ok {k : Nat}  {a0_0 : Int} {a0_1 : List (Int × Int × Int)} {a0_2 : List Int} {a1 : Int} {r0 : Int} {r1 : List (Int × Int × Int)} {r2 : List Int} (h : spec_l3Node.f k a0_0 a0_1 a0_2 a1 = some (r0, r1, r2)) (w : World) {va0_1 : Value} {va0_2 : Value} (hr_a0_1 : Rd w va0_1 a0_1) (hr_a0_2 : Rd w va0_2 a0_2) :
    Calls Try.prog 84 ([.agg ([.int .i64 a0_0, va0_1, va0_2].toArray), .int .i64 a1] : List Value).toArray w (Post (fun u ns => ∃ (ur1 : Value) (Sr1 : Nat → Prop) (ur2 : Value) (Sr2 : Nat → Prop), u = .agg [.int .i64 r0, ur1, ur2].toArray ∧ SlLen ur1 r1.length ∧ SlLen ur2 r2.length ∧ ns = [R.sl Sr1 ur1 r1, R.sl Sr2 ur2 r2]) w) := by
  unfold spec_l3Node.f at h
  have hl_va0_1 := hr_a0_1.len
  have hl_va0_2 := hr_a0_2.len
  refine Calls.of_tri (N := 47) Try.func84 rfl rfl rfl (Sep.nil (M := noM)) ?_
  refine Tri.seq ?_
  refine Tri.reg (l := [0, 1]) rfl ?_
  refine F.m rfl rfl rfl (wanted_none rfl) (m_boxG rfl rfl) ?_
  rintro _ _ ⟨b2_1, rfl, rfl⟩
  refine F.m rfl rfl rfl (wanted_none rfl) (m_alloc ti31) ?_
  rintro _ _ ⟨b4_1, rfl, rfl⟩
  refine F.nil ?_
  refine Nrm.seq ?_
  refine Tri.seq ?_
  obtain ⟨⟨t8_1, t8_2, t8_3⟩, h8, h⟩ := bind_some h
  refine Tri.reg (l := [0, 1, 2, 3]) rfl ?_
  refine F.q rfl rfl rfl (wanted_none rfl) (r_loadA ta31 ti31 rfl rfl (fun w hw => (box_cells (i := 1) rfl w hw))) ?_
  refine F.m rfl rfl rfl (wanted_none rfl) (m_callF (xs := _) rfl ok126 rfl rfl (fun w hw => spec_l2Own.ok h8 w ((fun _ hw => hr_a0_1.sep hw) w hw) ((fun _ hw => hr_a0_2.sep hw) w hw))) ?_
  rintro _ _ ⟨_, ⟨v8_1, S8_1, v8_2, S8_2, rfl, hl_v8_1, hl_v8_2, rfl⟩, rfl⟩
  refine F.m rfl rfl rfl (wanted_none rfl) (m_alloc ti31) ?_
  rintro _ _ ⟨b5_1, rfl, rfl⟩
  refine F.ef0 rfl rfl (wanted_none rfl) (d_storeG0 (i := 0) (cs2 := [.int .i64 t8_1, v8_1, v8_2]) ti31 rfl rfl rfl rfl rfl (Nat.le_of_ble_eq_true rfl) (lf_cons rfl (lf_cons (sl_leaf hl_v8_1) (lf_cons (sl_leaf hl_v8_2) lf_nil)))) ?_
  rintro _ _ ⟨rfl, rfl⟩
  refine F.nil ?_
  refine Nrm.seq ?_
  refine Tri.seq ?_
  refine Tri.reg (l := [0, 1, 2]) rfl ?_
  refine F.m rfl rfl rfl (wanted_none rfl) (m_build0 (α := Int × Int × Int) Try.underlying22 ti130) ?_
  rintro v9_1 _ ⟨S9_1, hl_v9_1, rfl⟩
  refine F.q rfl rfl rfl (wanted_none rfl) (r_fieldAddr tf31_1 rfl) ?_
  refine F.ef0 rfl rfl (wanted_none rfl) (d_storeG1 (i := 1) (cs2 := [v9_1]) ti22 rfl rfl rfl (sl_cells hl_v9_1) rfl (Nat.le_of_ble_eq_true rfl) (lf_cons (sl_leaf hl_v9_1) lf_nil)) ?_
  rintro _ _ ⟨rfl, rfl⟩
  refine F.nil ?_
  refine Nrm.seq ?_
  refine Tri.seq ?_
  refine Tri.seq ?_
  refine Tri.reg (l := [0]) rfl ?_
  refine F.q rfl rfl rfl (wanted_none rfl) (r_assign rfl) ?_
  refine F.nil ?_
  refine Nrm.seq ?_
  obtain ⟨xq5_1_1, hE_1, h⟩ := bind_some h
  refine Tri.block ?_
  refine Tri.only [1, 2, 4, 5, 6] rfl ?_
  refine Tri.pick [1, 4, 5, 0, 3] rfl rfl ?_
  refine Tri.rounds (fun n e' C' => ∃ (x6' : Int) (xq5_1_1' : List (Int × Int × Int)) (wq5_1_1 : Value) (Tq5_1_1 : Nat → Prop), spec_l3Node.l0 k a0_1 a1 n x6' xq5_1_1' = some xq5_1_1 ∧ SlLen wq5_1_1 (xq5_1_1').length ∧ e' = [(1, .int .i64 a1), (2, .pointer (some ⟨b2_1, 0, none⟩)), (4, .pointer (some ⟨b4_1, 0, none⟩)), (5, .pointer (some ⟨b5_1, 0, none⟩)), (6, .int .i64 x6')] ∧ C' = Sep w noM [R.box b5_1 31 [.int .i64 t8_1, wq5_1_1, v8_2], R.box b4_1 31 [.int .i64 0, .slice none 0 0, .slice none 0 0], R.box b2_1 31 [.int .i64 a0_0, va0_1, va0_2], R.sl Tq5_1_1 wq5_1_1 (xq5_1_1' : List (Int × Int × Int)), R.sl S8_2 v8_2 (t8_3 : List (Int))]) k ?_ ?_ ?_
  · exact ⟨0, ([] : List (Int × Int × Int)), v9_1, S9_1, hE_1, hl_v9_1, rfl, rfl⟩
  · rintro _ _ ⟨_, _, _, _, hE_1, _⟩
    rw [spec_l3Node.l0.eq_1] at hE_1; cases hE_1
  · rintro n_1 _ _ ⟨x6, xq5_1_1, wq5_1_1, Tq5_1_1, hE_1, hl_wq5_1_1, rfl, rfl⟩ ih_1
    rw [spec_l3Node.l0.eq_2] at hE_1
    refine Tri.seq ?_
    refine Tri.seq ?_
    refine Tri.reg (l := [0, 1, 2, 3, 4]) rfl ?_
    refine F.q rfl rfl rfl (wanted_none rfl) (r_move rfl) ?_
    refine F.q rfl rfl rfl (wanted_none rfl) (r_fieldAddr tf31_1 rfl) ?_
    refine F.q rfl rfl rfl (wanted_none rfl) (r_load ta22 rfl (fun w hw => cell_1 (box_cells (i := 2) rfl w hw) rfl)) ?_
    refine F.q rfl rfl rfl (wanted_none rfl) (r_len Try.underlying22 rfl hl_va0_1) ?_
    refine F.q rfl rfl rfl (wanted_none rfl) (r_lss rfl rfl) ?_
    refine F.nil ?_
    refine Nrm.seq ?_
    refine Tri.cond (b := decide (x6 < (a0_1.length : Int))) rfl (fun g_1 => ?_) (fun g_1 => ?_)
    · replace hE_1 := if_tt g_1 hE_1
      refine Tri.skip ?_
      refine Nrm.seq ?_
      refine Tri.seq ?_
      refine Tri.block ?_
      refine Tri.seq ?_
      obtain ⟨y35, hE_2, hE_1⟩ := bind_some hE_1
      refine Tri.cut (fun e' C' => e' = [(1, .int .i64 a1), (2, .pointer (some ⟨b2_1, 0, none⟩)), (4, .pointer (some ⟨b4_1, 0, none⟩)), (5, .pointer (some ⟨b5_1, 0, none⟩)), (6, .int .i64 x6), (35, .bool y35)] ∧ C' = Sep w noM [R.box b5_1 31 [.int .i64 t8_1, wq5_1_1, v8_2], R.box b4_1 31 [.int .i64 0, .slice none 0 0, .slice none 0 0], R.box b2_1 31 [.int .i64 a0_0, va0_1, va0_2], R.sl S8_2 v8_2 (t8_3 : List (Int)), R.sl Tq5_1_1 wq5_1_1 (xq5_1_1 : List (Int × Int × Int))]) ?_ (fun hj_1 => ?_)
      · rintro _ _ ⟨rfl, rfl⟩
        refine Nrm.seq ?_
        obtain ⟨yb5_1_1, hE_3, hE_1⟩ := bind_some hE_1
        refine Tri.cut (fun e' C' => ∃ (vb5_1_1_1 : Value) (Sb5_1_1_1 : Nat → Prop), SlLen vb5_1_1_1 (yb5_1_1).length ∧ e' = [(1, .int .i64 a1), (2, .pointer (some ⟨b2_1, 0, none⟩)), (4, .pointer (some ⟨b4_1, 0, none⟩)), (5, .pointer (some ⟨b5_1, 0, none⟩)), (6, .int .i64 x6)] ∧ C' = Sep w noM [R.box b5_1 31 [.int .i64 t8_1, vb5_1_1_1, v8_2], R.box b4_1 31 [.int .i64 0, .slice none 0 0, .slice none 0 0], R.box b2_1 31 [.int .i64 a0_0, va0_1, va0_2], R.sl Sb5_1_1_1 vb5_1_1_1 (yb5_1_1 : List (Int × Int × Int)), R.sl S8_2 v8_2 (t8_3 : List (Int))]) ?_ (fun hj_2 => ?_)
        · rintro _ _ ⟨vb5_1_1_1, Sb5_1_1_1, hl_vb5_1_1_1, rfl, rfl⟩
          refine Nrm.block ?_
          refine Nrm.seq ?_
          refine Tri.reg (l := [0, 1, 2]) rfl ?_
          refine F.q rfl rfl rfl (wanted_none rfl) (r_move rfl) ?_
          refine F.q rfl rfl rfl (wanted_none rfl) (r_add rfl rfl) ?_
          refine F.q rfl rfl rfl (wanted_none rfl) (r_assign rfl) ?_
          refine F.nil ?_
          refine Nrm.round ?_
          refine Rnd.only [1, 2, 4, 5, 6] rfl ?_
          refine Rnd.pick [0, 1, 2, 3, 4] rfl rfl ?_
          exact ih_1 _ _ ⟨w64 (x6 + 1), yb5_1_1, vb5_1_1_1, Sb5_1_1_1, hE_1, hl_vb5_1_1_1, rfl, rfl⟩
        · refine Tri.cond (b := y35) rfl (fun g_2 => ?_) (fun g_2 => ?_)
          · replace hE_3 := if_tt g_2 hE_3
            obtain ⟨t41, h41, hE_3⟩ := bind_some hE_3
            obtain ⟨hs44, hE_3⟩ := ck hE_3
            refine Tri.drawA mixedT Sep.up [(0, true), (1, true), (2, true), (3, true), (4, true), (5, true), (6, true), (7, false)] [8, 9, 10] (by kernel_rfl) ?_
            refine S.q rfl rfl rfl (wanted_none rfl) (r_fieldAddr tf31_1 rfl) ?_
            refine S.q rfl rfl rfl (wanted_none rfl) (r_load ta22 rfl (fun w hw => cell_1 (box_cells (i := 0) rfl w hw) rfl)) ?_
            refine S.q rfl rfl rfl (wanted_none rfl) (r_fieldAddr tf31_1 rfl) ?_
            refine S.q rfl rfl rfl (wanted_none rfl) (r_load ta22 rfl (fun w hw => cell_1 (box_cells (i := 2) rfl w hw) rfl)) ?_
            refine S.q rfl rfl rfl (wanted_none rfl) (r_move rfl) ?_
            refine S.q rfl rfl rfl (wanted_none rfl) (r_indexAddrS Try.underlying22 ti130 rfl hl_va0_1 rfl (rdl_some h41).1 (rdl_some h41).2.1) ?_
            refine S.q rfl rfl rfl (wanted_none rfl) (r_loadA ta130 ti130 rfl rfl (fun w hw => (Rd.flat ((fun _ hw => hr_a0_1.sep hw) w hw) (rdl_some h41).2.2))) ?_
            refine S.m rfl rfl rfl (wanted_none rfl) (m_buildF (l := ([t41] : List (Int × Int × Int))) Try.underlying22 ti130 rfl rfl rfl rfl rfl) ?_
            rintro v43_2 _ ⟨S43_2, hl_v43_2, rfl⟩
            refine S.nil ?_
            refine F.ef rfl rfl rfl (wanted_none rfl) (d_append (i := 5) Try.underlying22 Try.underlying22 ti130 rfl (by decide) rfl rfl rfl (rd_sl (i := 0) rfl) hs44) ?_
            rintro v44_2 _ ⟨S44_2, rfl, hl_v44_2⟩
            refine F.q rfl rfl rfl (wanted_none rfl) (r_fieldAddr tf31_1 rfl) ?_
            refine F.ef0 rfl rfl (wanted_none rfl) (d_storeG1 (i := 1) (cs2 := [v44_2]) ti22 rfl rfl rfl (sl_cells hl_v44_2) rfl (Nat.le_of_ble_eq_true rfl) (lf_cons (sl_leaf hl_v44_2) lf_nil)) ?_
            rintro _ _ ⟨rfl, rfl⟩
            refine F.nil ?_
            cases hE_3
            refine Nrm.only [1, 2, 4, 5, 6] rfl ?_
            refine Nrm.pick [1, 2, 3, 5, 4] rfl rfl ?_
            exact hj_2 _ _ ⟨v44_2, S44_2, hl_v44_2, rfl, rfl⟩
          · replace hE_3 := if_ff g_2 hE_3
            refine Tri.skip ?_
            cases hE_3
            refine Nrm.only [1, 2, 4, 5, 6] rfl ?_
            refine Nrm.pick [0, 1, 2, 4, 3] rfl rfl ?_
            exact hj_2 _ _ ⟨wq5_1_1, Tq5_1_1, hl_wq5_1_1, rfl, rfl⟩
      · obtain ⟨t21, h21, hE_2⟩ := bind_some hE_2
        rcases Bool.eq_false_or_eq_true (t21.1 != a1) with g26 | g26
        · replace hE_2 := if_tt g26 hE_2
          obtain ⟨t30, h30, hE_2⟩ := bind_some hE_2
          refine Tri.reg (l := [0, 1, 2, 3, 4, 5, 6, 7, 8, 9, 10, 11, 12, 13, 14, 15, 16, 17]) rfl ?_
          refine F.q rfl rfl rfl (wanted_none rfl) (r_fieldAddr tf31_1 rfl) ?_
          refine F.q rfl rfl rfl (wanted_none rfl) (r_load ta22 rfl (fun w hw => cell_1 (box_cells (i := 2) rfl w hw) rfl)) ?_
          refine F.q rfl rfl rfl (wanted_none rfl) (r_move rfl) ?_
          refine F.q rfl rfl rfl (wanted_none rfl) (r_indexAddrS Try.underlying22 ti130 rfl hl_va0_1 rfl (rdl_some h21).1 (rdl_some h21).2.1) ?_
          refine F.q rfl rfl rfl (wanted_none rfl) (r_indexAddrA Try.underlying130 ti3 rfl rfl (by decide) (by decide)) ?_
          refine F.q rfl rfl rfl (wanted_none rfl) (r_load ta3 rfl (fun w hw => cell_1 (Rd.flat ((fun _ hw => hr_a0_1.sep hw) w hw) (rdl_some h21).2.2) rfl)) ?_
          refine F.q rfl rfl rfl (wanted_none rfl) (r_move rfl) ?_
          refine F.q rfl rfl rfl (wanted_none rfl) (r_neq rfl rfl) ?_
          refine F.q rfl rfl rfl (wanted_none rfl) (r_move rfl) ?_
          refine F.q rfl rfl rfl (wg rfl rfl rfl g26) (r_fieldAddr tf31_1 rfl) ?_
          refine F.q rfl rfl rfl (wg rfl rfl rfl g26) (r_load ta22 rfl (fun w hw => cell_1 (box_cells (i := 2) rfl w hw) rfl)) ?_
          refine F.q rfl rfl rfl (wg rfl rfl rfl g26) (r_move rfl) ?_
          refine F.q rfl rfl rfl (wg rfl rfl rfl g26) (r_indexAddrS Try.underlying22 ti130 rfl hl_va0_1 rfl (rdl_some h30).1 (rdl_some h30).2.1) ?_
          refine F.q rfl rfl rfl (wg rfl rfl rfl g26) (r_indexAddrA Try.underlying130 ti3 rfl rfl (by decide) (by decide)) ?_
          refine F.q rfl rfl rfl (wg rfl rfl rfl g26) (r_load ta3 rfl (fun w hw => cell_1 (Rd.flat ((fun _ hw => hr_a0_1.sep hw) w hw) (rdl_some h30).2.2) rfl)) ?_
          refine F.q rfl rfl rfl (wg rfl rfl rfl g26) (r_move rfl) ?_
          refine F.q rfl rfl rfl (wg rfl rfl rfl g26) (r_neq rfl rfl) ?_
          refine F.q rfl rfl rfl (wanted_none rfl) (r_pick rfl rfl g26) ?_
          refine F.nil ?_
          cases hE_2
          refine Nrm.only [1, 2, 4, 5, 6, 35] rfl ?_
          refine Nrm.pick [0, 1, 2, 4, 3] rfl rfl ?_
          exact hj_1 _ _ ⟨rfl, rfl⟩
        · replace hE_2 := if_ff g26 hE_2
          refine Tri.reg (l := [0, 1, 2, 3, 4, 5, 6, 7, 8, 9, 10, 11, 12, 13, 14, 15, 16, 17]) rfl ?_
          refine F.q rfl rfl rfl (wanted_none rfl) (r_fieldAddr tf31_1 rfl) ?_
          refine F.q rfl rfl rfl (wanted_none rfl) (r_load ta22 rfl (fun w hw => cell_1 (box_cells (i := 2) rfl w hw) rfl)) ?_
          refine F.q rfl rfl rfl (wanted_none rfl) (r_move rfl) ?_
          refine F.q rfl rfl rfl (wanted_none rfl) (r_indexAddrS Try.underlying22 ti130 rfl hl_va0_1 rfl (rdl_some h21).1 (rdl_some h21).2.1) ?_
          refine F.q rfl rfl rfl (wanted_none rfl) (r_indexAddrA Try.underlying130 ti3 rfl rfl (by decide) (by decide)) ?_
          refine F.q rfl rfl rfl (wanted_none rfl) (r_load ta3 rfl (fun w hw => cell_1 (Rd.flat ((fun _ hw => hr_a0_1.sep hw) w hw) (rdl_some h21).2.2) rfl)) ?_
          refine F.q rfl rfl rfl (wanted_none rfl) (r_move rfl) ?_
          refine F.q rfl rfl rfl (wanted_none rfl) (r_neq rfl rfl) ?_
          refine F.q rfl rfl rfl (wanted_none rfl) (r_move rfl) ?_
          refine F.sk rfl rfl rfl (wf rfl rfl rfl g26) ?_
          refine F.sk rfl rfl rfl (wf rfl rfl rfl g26) ?_
          refine F.sk rfl rfl rfl (wf rfl rfl rfl g26) ?_
          refine F.sk rfl rfl rfl (wf rfl rfl rfl g26) ?_
          refine F.sk rfl rfl rfl (wf rfl rfl rfl g26) ?_
          refine F.sk rfl rfl rfl (wf rfl rfl rfl g26) ?_
          refine F.sk rfl rfl rfl (wf rfl rfl rfl g26) ?_
          refine F.sk rfl rfl rfl (wf rfl rfl rfl g26) ?_
          refine F.q rfl rfl rfl (wanted_none rfl) (r_pickf rfl rfl g26) ?_
          refine F.nil ?_
          cases hE_2
          refine Nrm.only [1, 2, 4, 5, 6, 35] rfl ?_
          refine Nrm.pick [0, 1, 2, 4, 3] rfl rfl ?_
          exact hj_1 _ _ ⟨rfl, rfl⟩
    · replace hE_1 := if_ff g_1 hE_1
      refine Tri.exit ?_
      refine Exi.then ?_
      refine Exi.then ?_
      refine Exi.same ?_
      cases hE_1
      refine Nrm.seq ?_
      refine Tri.seq ?_
      refine Tri.reg (l := [0, 1]) rfl ?_
      refine F.q rfl rfl rfl (wanted_none rfl) (r_loadA ta31 ti31 rfl rfl (fun w hw => (box_cells (i := 0) rfl w hw))) ?_
      refine F.ef0 rfl rfl (wanted_none rfl) (d_storeG0 (i := 1) (cs2 := [.int .i64 t8_1, wq5_1_1, v8_2]) ti31 rfl rfl rfl rfl rfl (Nat.le_of_ble_eq_true rfl) (lf_cons rfl (lf_cons (sl_leaf hl_wq5_1_1) (lf_cons (sl_leaf hl_v8_2) lf_nil)))) ?_
      rintro _ _ ⟨rfl, rfl⟩
      refine F.nil ?_
      refine Nrm.seq ?_
      refine Tri.ret ?_
      cases h
      exact Rtn.body (.cell rfl ta31 ti31 rfl (fun _ hw => box_cells (i := 1) rfl _ hw) .nil) (fun w hw => ⟨_, _, rfl, ⟨wq5_1_1, Tq5_1_1, v8_2, S8_2, rfl, hl_wq5_1_1, hl_v8_2, rfl⟩, Sep.pick (is := [3, 4]) rfl rfl hw⟩)

end Go.Proofs

/- loop.example/g01158/spec.RequiredNodes -/
namespace Go.Proofs
open Go Go.Ga
set_option linter.unusedVariables false
set_option maxRecDepth 100000
set_option maxHeartbeats 4000000
def spec_RequiredNodes.l0 (k : Nat) (a0_0 : Int) (a0_1 : List (Int × Int × Int)) (a0_2 : List Int) (a1 : Int) : Nat → (List (Int)) → Int → Option ((List (Int)))
  | 0, _, _ => none
  | n + 1, x6, x7 => (if (decide (x7 < (w64 (a0_0 - 1)))) = true then (spec_l3Node.f k a0_0 a0_1 a0_2 x7).bind fun (t23_1, t23_2, t23_3) => (spec_l3Wins.f k t23_1 t23_2 t23_3 a1).bind fun t25 => ((if (!t25) = true then if (x6 ++ ([x7] : List (Int))).length < 1099511627776 then some (x6 ++ ([x7] : List (Int))) else none else some x6)).bind fun y6 => spec_RequiredNodes.l0 k a0_0 a0_1 a0_2 a1 n y6 (w64 (x7 + 1)) else some x6)

def spec_RequiredNodes.f (k : Nat) (a0_0 : Int) (a0_1 : List (Int × Int × Int)) (a0_2 : List Int) (a1 : Int) : Option ((List Int) × Bool) := (spec_l3Can.f k a0_0 a0_1 a0_2 a1).bind fun t11 => (if (!t11) = true then some (([] : List (Int)), false) else (spec_RequiredNodes.l0 k a0_0 a0_1 a0_2 a1 k ([] : List (Int)) 1).bind fun x6 => some (x6, true))

theorem spec_RequiredNodes.ok {k : Nat}  {a0_0 : Int} {a0_1 : List (Int × Int × Int)} {a0_2 : List Int} {a1 : Int} {r0 : List Int} {r1 : Bool} (h : spec_RequiredNodes.f k a0_0 a0_1 a0_2 a1 = some (r0, r1)) (w : World) {va0_1 : Value} {va0_2 : Value} (hr_a0_1 : Rd w va0_1 a0_1) (hr_a0_2 : Rd w va0_2 a0_2) :
    Calls Try.prog 32 ([.agg ([.int .i64 a0_0, va0_1, va0_2].toArray), .int .i64 a1] : List Value).toArray w (Post (fun u ns => ∃ (ur0 : Value) (Sr0 : Nat → Prop), u = .tuple #[ur0, .bool r1] ∧ SlLen ur0 r0.length ∧ ns = [R.sl Sr0 ur0 r0]) w) := by
  unfold spec_RequiredNodes.f at h
  have hl_va0_1 := hr_a0_1.len
  have hl_va0_2 := hr_a0_2.len
  refine Calls.of_tri (N := 32) Try.func32 rfl rfl rfl (Sep.nil (M := noM)) ?_
  refine Tri.seq ?_
  refine Tri.reg (l := [0, 1, 2]) rfl ?_
  refine F.m rfl rfl rfl (wanted_none rfl) (m_boxG rfl rfl) ?_
  rintro _ _ ⟨b2_1, rfl, rfl⟩
  refine F.q rfl rfl rfl (wanted_none rfl) (r_assign rfl) ?_
  refine F.q rfl rfl rfl (wanted_none rfl) (r_assign rfl) ?_
  refine F.nil ?_
  refine Nrm.seq ?_
  refine Tri.seq ?_
  refine Tri.reg (l := [0, 1]) rfl ?_
  refine F.m rfl rfl rfl (wanted_none rfl) (m_build0 (α := Int) Try.underlying23 ti3) ?_
  rintro v8_1 _ ⟨S8_1, hl_v8_1, rfl⟩
  refine F.q rfl rfl rfl (wanted_none rfl) (r_assign rfl) ?_
  refine F.nil ?_
  refine Nrm.seq ?_
  refine Tri.seq ?_
  refine Tri.seq ?_
  obtain ⟨t11, h11, h⟩ := bind_some h
  refine Tri.reg (l := [0, 1, 2, 3]) rfl ?_
  refine F.q rfl rfl rfl (wanted_none rfl) (r_loadA ta31 ti31 rfl rfl (fun w hw => (box_cells (i := 1) rfl w hw))) ?_
  refine F.q rfl rfl rfl (wanted_none rfl) (r_move rfl) ?_
  refine F.qc rfl rfl rfl (wanted_none rfl) (q_callF (xs := _) rfl ok73 rfl rfl (fun w hw => spec_l3Can.ok h11 w ((fun _ hw => hr_a0_1.sep hw) w hw) ((fun _ hw => hr_a0_2.sep hw) w hw))) ?_
  refine F.q rfl rfl rfl (wanted_none rfl) (r_not rfl) ?_
  refine F.nil ?_
  refine Nrm.seq ?_
  refine Tri.cond (b := !t11) rfl (fun g_1 => ?_) (fun g_1 => ?_)
  · replace h := if_tt g_1 h
    refine Tri.seq ?_
    refine Tri.reg (l := [0, 1, 2]) rfl ?_
    refine F.q rfl rfl rfl (wanted_none rfl) (r_move rfl) ?_
    refine F.q rfl rfl rfl (wanted_none rfl) (r_assign rfl) ?_
    refine F.q rfl rfl rfl (wanted_none rfl) (r_assign rfl) ?_
    refine F.nil ?_
    refine Nrm.seq ?_
    refine Tri.ret ?_
    refine Rtn.then ?_
    cases h
    exact Rtn.body (.tmp rfl (.tmp rfl .nil)) (fun w hw => ⟨_, _, rfl, ⟨v8_1, S8_1, rfl, hl_v8_1, rfl⟩, Sep.pick (is := [0]) rfl rfl hw⟩)
  · replace h := if_ff g_1 h
    refine Tri.skip ?_
    refine Nrm.seq ?_
    refine Tri.seq ?_
    refine Tri.seq ?_
    refine Tri.reg (l := [0]) rfl ?_
    refine F.q rfl rfl rfl (wanted_none rfl) (r_assign rfl) ?_
    refine F.nil ?_
    refine Nrm.seq ?_
    obtain ⟨x6, hE_1, h⟩ := bind_some h
    refine Tri.block ?_
    refine Tri.only [1, 2, 6, 7] rfl ?_
    refine Tri.pick [1, 0] rfl rfl ?_
    refine Tri.rounds (fun n e' C' => ∃ (x6' : List (Int)) (x7' : Int) (w6 : Value) (T6 : Nat → Prop), spec_RequiredNodes.l0 k a0_0 a0_1 a0_2 a1 n x6' x7' = some x6 ∧ SlLen w6 (x6').length ∧ e' = [(1, .int .i64 a1), (2, .pointer (some ⟨b2_1, 0, none⟩)), (6, w6), (7, .int .i64 x7')] ∧ C' = Sep w noM [R.box b2_1 31 [.int .i64 a0_0, va0_1, va0_2], R.sl T6 w6 (x6' : List (Int))]) k ?_ ?_ ?_
    · exact ⟨([] : List (Int)), 1, v8_1, S8_1, hE_1, hl_v8_1, rfl, rfl⟩
    · rintro _ _ ⟨_, _, _, _, hE_1, _⟩
      rw [spec_RequiredNodes.l0.eq_1] at hE_1; cases hE_1
    · rintro n_1 _ _ ⟨x6, x7, w6, T6, hE_1, hl_w6, rfl, rfl⟩ ih_1
      rw [spec_RequiredNodes.l0.eq_2] at hE_1
      refine Tri.seq ?_
      refine Tri.seq ?_
      refine Tri.reg (l := [0, 1, 2, 3, 4]) rfl ?_
      refine F.q rfl rfl rfl (wanted_none rfl) (r_move rfl) ?_
      refine F.q rfl rfl rfl (wanted_none rfl) (r_fieldAddr tf31_0 rfl) ?_
      refine F.q rfl rfl rfl (wanted_none rfl) (r_load ta3 rfl (fun w hw => cell_1 (box_cells (i := 0) rfl w hw) rfl)) ?_
      refine F.q rfl rfl rfl (wanted_none rfl) (r_sub rfl rfl) ?_
      refine F.q rfl rfl rfl (wanted_none rfl) (r_lss rfl rfl) ?_
      refine F.nil ?_
      refine Nrm.seq ?_
      refine Tri.cond (b := decide (x7 < (w64 (a0_0 - 1)))) rfl (fun g_2 => ?_) (fun g_2 => ?_)
      · replace hE_1 := if_tt g_2 hE_1
        refine Tri.skip ?_
        refine Nrm.seq ?_
        refine Tri.seq ?_
        refine Tri.block ?_
        refine Tri.seq ?_
        obtain ⟨⟨t23_1, t23_2, t23_3⟩, h23, hE_1⟩ := bind_some hE_1
        obtain ⟨t25, h25, hE_1⟩ := bind_some hE_1
        refine Tri.reg (l := [0, 1, 2, 3, 4, 5]) rfl ?_
        refine F.q rfl rfl rfl (wanted_none rfl) (r_loadA ta31 ti31 rfl rfl (fun w hw => (box_cells (i := 0) rfl w hw))) ?_
        refine F.q rfl rfl rfl (wanted_none rfl) (r_move rfl) ?_
        refine F.m rfl rfl rfl (wanted_none rfl) (m_callF (xs := _) rfl ok84 rfl rfl (fun w hw => spec_l3Node.ok h23 w ((fun _ hw => hr_a0_1.sep hw) w hw) ((fun _ hw => hr_a0_2.sep hw) w hw))) ?_
        rintro _ _ ⟨_, ⟨v23_1, S23_1, v23_2, S23_2, rfl, hl_v23_1, hl_v23_2, rfl⟩, rfl⟩
        refine F.q rfl rfl rfl (wanted_none rfl) (r_move rfl) ?_
        refine F.qc rfl rfl rfl (wanted_none rfl) (q_callF (xs := _) rfl ok74 rfl rfl (fun w hw => spec_l3Wins.ok h25 w ((rd_sl (i := 0) rfl) w hw) ((rd_sl (i := 1) rfl) w hw))) ?_
        refine F.q rfl rfl rfl (wanted_none rfl) (r_not rfl) ?_
        refine F.nil ?_
        refine Nrm.seq ?_
        obtain ⟨y6, hE_2, hE_1⟩ := bind_some hE_1
        refine Tri.cut (fun e' C' => ∃ (v6_1 : Value) (S6_1 : Nat → Prop), SlLen v6_1 (y6).length ∧ e' = [(1, .int .i64 a1), (2, .pointer (some ⟨b2_1, 0, none⟩)), (6, v6_1), (7, .int .i64 x7)] ∧ C' = Sep w noM [R.box b2_1 31 [.int .i64 a0_0, va0_1, va0_2], R.sl S6_1 v6_1 (y6 : List (Int))]) ?_ (fun hj_1 => ?_)
        · rintro _ _ ⟨v6_1, S6_1, hl_v6_1, rfl, rfl⟩
          refine Nrm.block ?_
          refine Nrm.seq ?_
          refine Tri.reg (l := [0, 1, 2]) rfl ?_
          refine F.q rfl rfl rfl (wanted_none rfl) (r_move rfl) ?_
          refine F.q rfl rfl rfl (wanted_none rfl) (r_add rfl rfl) ?_
          refine F.q rfl rfl rfl (wanted_none rfl) (r_assign rfl) ?_
          refine F.nil ?_
          refine Nrm.round ?_
          refine Rnd.only [1, 2, 6, 7] rfl ?_
          refine Rnd.pick [0, 1] rfl rfl ?_
          exact ih_1 _ _ ⟨y6, w64 (x7 + 1), v6_1, S6_1, hE_1, hl_v6_1, rfl, rfl⟩
        · refine Tri.cond (b := !t25) rfl (fun g_3 => ?_) (fun g_3 => ?_)
          · replace hE_2 := if_tt g_3 hE_2
            obtain ⟨hs30, hE_2⟩ := ck hE_2
            refine Tri.reg (l := [0, 1, 2, 3, 4]) rfl ?_
            refine F.q rfl rfl rfl (wanted_none rfl) (r_move rfl) ?_
            refine F.q rfl rfl rfl (wanted_none rfl) (r_move rfl) ?_
            refine F.m rfl rfl rfl (wanted_none rfl) (m_buildF (l := ([x7] : List (Int))) Try.underlying23 ti3 rfl rfl rfl rfl rfl) ?_
            rintro v29_1 _ ⟨S29_1, hl_v29_1, rfl⟩
            refine F.ef rfl rfl rfl (wanted_none rfl) (d_append (i := 4) Try.underlying23 Try.underlying23 ti3 rfl (by decide) rfl rfl rfl (rd_sl (i := 0) rfl) hs30) ?_
            rintro v30_1 _ ⟨S30_1, rfl, hl_v30_1⟩
            refine F.q rfl rfl rfl (wanted_none rfl) (r_assign rfl) ?_
            refine F.nil ?_
            cases hE_2
            refine Nrm.only [1, 2, 6, 7] rfl ?_
            refine Nrm.pick [3, 4] rfl rfl ?_
            exact hj_1 _ _ ⟨v30_1, S30_1, hl_v30_1, rfl, rfl⟩
          · replace hE_2 := if_ff g_3 hE_2
            refine Tri.skip ?_
            cases hE_2
            refine Nrm.only [1, 2, 6, 7] rfl ?_
            refine Nrm.pick [2, 3] rfl rfl ?_
            exact hj_1 _ _ ⟨w6, T6, hl_w6, rfl, rfl⟩
      · replace hE_1 := if_ff g_2 hE_1
        refine Tri.exit ?_
        refine Exi.then ?_
        refine Exi.then ?_
        refine Exi.same ?_
        cases hE_1
        refine Nrm.seq ?_
        refine Tri.seq ?_
        refine Tri.reg (l := [0, 1, 2]) rfl ?_
        refine F.q rfl rfl rfl (wanted_none rfl) (r_move rfl) ?_
        refine F.q rfl rfl rfl (wanted_none rfl) (r_assign rfl) ?_
        refine F.q rfl rfl rfl (wanted_none rfl) (r_assign rfl) ?_
        refine F.nil ?_
        refine Nrm.seq ?_
        refine Tri.ret ?_
        cases h
        exact Rtn.body (.tmp rfl (.tmp rfl .nil)) (fun w hw => ⟨_, _, rfl, ⟨w6, T6, rfl, hl_w6, rfl⟩, Sep.pick (is := [1]) rfl rfl hw⟩)

end Go.Proofs

/- loop.example/g01158/impl.members -/

namespace Go.Proofs
open Go Go.Ga
set_option linter.unusedVariables false
set_option maxRecDepth 100000
set_option maxHeartbeats 4000000
def impl_members.l0 (k : Nat) (a0 : Int) : Nat → (List (Int)) → Int → Option ((List (Int)))
  | 0, _, _ => none
  | n + 1, x3, x4 => if ¬ x4 < 0 then (if (decide ((shr a0 x4) > 0)) = true then if ¬ x4 < 0 then ((if ((band (shr a0 x4) 1) == 1) = true then if (x3 ++ ([x4] : List (Int))).length < 1099511627776 then some (x3 ++ ([x4] : List (Int))) else none else some x3)).bind fun y3 => impl_members.l0 k a0 n y3 (w64 (x4 + 1)) else none else some x3) else none

def impl_members.f (k : Nat) (a0 : Int) : Option ((List Int)) := (impl_members.l0 k a0 k ([] : List (Int)) 0).bind fun x3 => some x3

theorem impl_members.ok {k : Nat}  {a0 : Int} {r0 : List Int} (h : impl_members.f k a0 = some r0) (w : World) :
    Calls Try.prog 70 ([.int .i64 a0] : List Value).toArray w (Post (fun u ns => ∃ (Sr0 : Nat → Prop), SlLen u r0.length ∧ ns = [R.sl Sr0 u r0]) w) := by
  unfold impl_members.f at h
  refine Calls.of_tri (N := 22) Try.func70 rfl rfl rfl (Sep.nil (M := noM)) ?_
  refine Tri.seq ?_
  refine Tri.reg (l := [0]) rfl ?_
  refine F.q rfl rfl rfl (wanted_none rfl) (r_assign rfl) ?_
  refine F.nil ?_
  refine Nrm.seq ?_
  refine Tri.seq ?_
  refine Tri.reg (l := [0, 1]) rfl ?_
  refine F.m rfl rfl rfl (wanted_none rfl) (m_build0 (α := Int) Try.underlying23 ti3) ?_
  rintro v5_1 _ ⟨S5_1, hl_v5_1, rfl⟩
  refine F.q rfl rfl rfl (wanted_none rfl) (r_assign rfl) ?_
  refine F.nil ?_
  refine Nrm.seq ?_
  refine Tri.seq ?_
  refine Tri.seq ?_
  refine Tri.reg (l := [0]) rfl ?_
  refine F.q rfl rfl rfl (wanted_none rfl) (r_assign rfl) ?_
  refine F.nil ?_
  refine Nrm.seq ?_
  obtain ⟨x3, hE_1, h⟩ := bind_some h
  refine Tri.block ?_
  refine Tri.only [0, 3, 4] rfl ?_
  refine Tri.pick [0] rfl rfl ?_
  refine Tri.rounds (fun n e' C' => ∃ (x3' : List (Int)) (x4' : Int) (w3 : Value) (T3 : Nat → Prop), impl_members.l0 k a0 n x3' x4' = some x3 ∧ SlLen w3 (x3').length ∧ e' = [(0, .int .i64 a0), (3, w3), (4, .int .i64 x4')] ∧ C' = Sep w noM [R.sl T3 w3 (x3' : List (Int))]) k ?_ ?_ ?_
  · exact ⟨([] : List (Int)), 0, v5_1, S5_1, hE_1, hl_v5_1, rfl, rfl⟩
  · rintro _ _ ⟨_, _, _, _, hE_1, _⟩
    rw [impl_members.l0.eq_1] at hE_1; cases hE_1
  · rintro n_1 _ _ ⟨x3, x4, w3, T3, hE_1, hl_w3, rfl, rfl⟩ ih_1
    rw [impl_members.l0.eq_2] at hE_1
    refine Tri.seq ?_
    refine Tri.seq ?_
    obtain ⟨hs8, hE_1⟩ := ck hE_1
    refine Tri.reg (l := [0, 1, 2, 3]) rfl ?_
    refine F.q rfl rfl rfl (wanted_none rfl) (r_move rfl) ?_
    refine F.q rfl rfl rfl (wanted_none rfl) (r_move rfl) ?_
    refine F.q rfl rfl rfl (wanted_none rfl) (r_shr rfl rfl hs8) ?_
    refine F.q rfl rfl rfl (wanted_none rfl) (r_gtr rfl rfl) ?_
    refine F.nil ?_
    refine Nrm.seq ?_
    refine Tri.cond (b := decide ((shr a0 x4) > 0)) rfl (fun g_1 => ?_) (fun g_1 => ?_)
    · replace hE_1 := if_tt g_1 hE_1
      refine Tri.skip ?_
      refine Nrm.seq ?_
      refine Tri.seq ?_
      refine Tri.block ?_
      refine Tri.seq ?_
      obtain ⟨hs14, hE_1⟩ := ck hE_1
      refine Tri.reg (l := [0, 1, 2, 3, 4]) rfl ?_
      refine F.q rfl rfl rfl (wanted_none rfl) (r_move rfl) ?_
      refine F.q rfl rfl rfl (wanted_none rfl) (r_move rfl) ?_
      refine F.q rfl rfl rfl (wanted_none rfl) (r_shr rfl rfl hs14) ?_
      refine F.q rfl rfl rfl (wanted_none rfl) (r_and rfl rfl) ?_
      refine F.q rfl rfl rfl (wanted_none rfl) (r_eql rfl rfl) ?_
      refine F.nil ?_
      refine Nrm.seq ?_
      obtain ⟨y3, hE_2, hE_1⟩ := bind_some hE_1
      refine Tri.cut (fun e' C' => ∃ (v3_1 : Value) (S3_1 : Nat → Prop), SlLen v3_1 (y3).length ∧ e' = [(0, .int .i64 a0), (3, v3_1), (4, .int .i64 x4)] ∧ C' = Sep w noM [R.sl S3_1 v3_1 (y3 : List (Int))]) ?_ (fun hj_1 => ?_)
      · rintro _ _ ⟨v3_1, S3_1, hl_v3_1, rfl, rfl⟩
        refine Nrm.block ?_
        refine Nrm.seq ?_
        refine Tri.reg (l := [0, 1, 2]) rfl ?_
        refine F.q rfl rfl rfl (wanted_none rfl) (r_move rfl) ?_
        refine F.q rfl rfl rfl (wanted_none rfl) (r_add rfl rfl) ?_
        refine F.q rfl rfl rfl (wanted_none rfl) (r_assign rfl) ?_
        refine F.nil ?_
        refine Nrm.round ?_
        refine Rnd.only [0, 3, 4] rfl ?_
        refine Rnd.pick [0] rfl rfl ?_
        exact ih_1 _ _ ⟨y3, w64 (x4 + 1), v3_1, S3_1, hE_1, hl_v3_1, rfl, rfl⟩
      · refine Tri.cond (b := (band (shr a0 x4) 1) == 1) rfl (fun g_2 => ?_) (fun g_2 => ?_)
        · replace hE_2 := if_tt g_2 hE_2
          obtain ⟨hs20, hE_2⟩ := ck hE_2
          refine Tri.reg (l := [0, 1, 2, 3, 4]) rfl ?_
          refine F.q rfl rfl rfl (wanted_none rfl) (r_move rfl) ?_
          refine F.q rfl rfl rfl (wanted_none rfl) (r_move rfl) ?_
          refine F.m rfl rfl rfl (wanted_none rfl) (m_buildF (l := ([x4] : List (Int))) Try.underlying23 ti3 rfl rfl rfl rfl rfl) ?_
          rintro v19_1 _ ⟨S19_1, hl_v19_1, rfl⟩
          refine F.ef rfl rfl rfl (wanted_none rfl) (d_append (i := 1) Try.underlying23 Try.underlying23 ti3 rfl (by decide) rfl rfl rfl (rd_sl (i := 0) rfl) hs20) ?_
          rintro v20_1 _ ⟨S20_1, rfl, hl_v20_1⟩
          refine F.q rfl rfl rfl (wanted_none rfl) (r_assign rfl) ?_
          refine F.nil ?_
          cases hE_2
          refine Nrm.only [0, 3, 4] rfl ?_
          refine Nrm.pick [1] rfl rfl ?_
          exact hj_1 _ _ ⟨v20_1, S20_1, hl_v20_1, rfl, rfl⟩
        · replace hE_2 := if_ff g_2 hE_2
          refine Tri.skip ?_
          cases hE_2
          refine Nrm.only [0, 3, 4] rfl ?_
          refine Nrm.pick [0] rfl rfl ?_
          exact hj_1 _ _ ⟨w3, T3, hl_w3, rfl, rfl⟩
    · replace hE_1 := if_ff g_1 hE_1
      refine Tri.exit ?_
      refine Exi.then ?_
      refine Exi.then ?_
      refine Exi.same ?_
      cases hE_1
      refine Nrm.seq ?_
      refine Tri.seq ?_
      refine Tri.reg (l := [0, 1]) rfl ?_
      refine F.q rfl rfl rfl (wanted_none rfl) (r_move rfl) ?_
      refine F.q rfl rfl rfl (wanted_none rfl) (r_assign rfl) ?_
      refine F.nil ?_
      refine Nrm.seq ?_
      refine Tri.ret ?_
      cases h
      exact Rtn.body (.tmp rfl .nil) (fun w hw => ⟨_, _, rfl, ⟨T3, hl_w3, rfl⟩, Sep.pick (is := [0]) rfl rfl hw⟩)

end Go.Proofs

/- loop.example/g01158/impl.has -/

namespace Go.Proofs
open Go Go.Ga
set_option linter.unusedVariables false
set_option maxRecDepth 100000
set_option maxHeartbeats 4000000
def impl_has.f (k : Nat) (a0 : Int) (a1 : Int) : Option (Bool) := some ((bclr a1 a0) == 0)

theorem impl_has.ok {k : Nat}  {a0 : Int} {a1 : Int} {r0 : Bool} (h : impl_has.f k a0 a1 = some r0) (w : World) :
    Calls Try.prog 123 ([.int .i64 a0, .int .i64 a1] : List Value).toArray w (fun e w' => e = .returned (.bool r0) ∧ Ext w w') := by
  unfold impl_has.f at h
  refine Calls.of_tri (N := 9) Try.func123 rfl rfl rfl (Sep.nil (M := noM)) ?_
  refine Tri.seq ?_
  refine Tri.reg (l := [0]) rfl ?_
  refine F.q rfl rfl rfl (wanted_none rfl) (r_assign rfl) ?_
  refine F.nil ?_
  refine Nrm.seq ?_
  refine Tri.seq ?_
  refine Tri.reg (l := [0, 1, 2, 3, 4]) rfl ?_
  refine F.q rfl rfl rfl (wanted_none rfl) (r_move rfl) ?_
  refine F.q rfl rfl rfl (wanted_none rfl) (r_move rfl) ?_
  refine F.q rfl rfl rfl (wanted_none rfl) (r_andNot rfl rfl) ?_
  refine F.q rfl rfl rfl (wanted_none rfl) (r_eql rfl rfl) ?_
  refine F.q rfl rfl rfl (wanted_none rfl) (r_assign rfl) ?_
  refine F.nil ?_
  refine Nrm.seq ?_
  refine Tri.ret ?_
  cases h
  exact Rtn.body (.tmp rfl .nil) (fun w hw => ⟨rfl, hw.ext⟩)

end Go.Proofs

/- loop.example/g01158/impl.steps -/
namespace Go.Proofs
open Go Go.Ga
set_option linter.unusedVariables false
set_option maxRecDepth 100000
set_option maxHeartbeats 4000000
def impl_steps.l0 (k : Nat) (a0_1 : List (Int × Int × Int)) (a1 : Int) (a2 : Int) : Nat → Int → Int → Option (Int)
  | 0, _, _ => none
  | n + 1, x7, x13 => (if (decide (x13 < (a0_1.length : Int))) = true then ((rdl a0_1 x13).bind fun t15 => (impl_has.f k a2 t15.2.2).bind fun t20 => (if (!t20) = true then some x7 else ((if (t15.1 == a1) = true then if ¬ t15.2.1 < 0 then some (bor x7 (shl 1 t15.2.1)) else none else some x7)).bind fun y7rr => ((if (t15.2.1 == a1) = true then if ¬ t15.1 < 0 then some (bor y7rr (shl 1 t15.1)) else none else some y7rr)).bind fun y7rrr => some y7rrr)).bind fun y7rr => impl_steps.l0 k a0_1 a1 a2 n y7rr (w64 (x13 + 1)) else some x7)

def impl_steps.f (k : Nat) (a0_0 : Int) (a0_1 : List (Int × Int × Int)) (a0_2 : List Int) (a1 : Int) (a2 : Int) : Option (Int) := (impl_steps.l0 k a0_1 a1 a2 k 0 0).bind fun x7 => some x7

theorem impl_steps.ok {k : Nat}  {a0_0 : Int} {a0_1 : List (Int × Int × Int)} {a0_2 : List Int} {a1 : Int} {a2 : Int} {r0 : Int} (h : impl_steps.f k a0_0 a0_1 a0_2 a1 a2 = some r0) (w : World) {va0_1 : Value} {va0_2 : Value} (hr_a0_1 : Rd w va0_1 a0_1) (hr_a0_2 : Rd w va0_2 a0_2) :
    Calls Try.prog 140 ([.agg ([.int .i64 a0_0, va0_1, va0_2].toArray), .int .i64 a1, .int .i64 a2] : List Value).toArray w (fun e w' => e = .returned (.int .i64 r0) ∧ Ext w w') := by
  unfold impl_steps.f at h
  have hl_va0_1 := hr_a0_1.len
  have hl_va0_2 := hr_a0_2.len
  refine Calls.of_tri (N := 42) Try.func140 rfl rfl rfl (Sep.nil (M := noM)) ?_
  refine Tri.seq ?_
  refine Tri.reg (l := [0, 1]) rfl ?_
  refine F.m rfl rfl rfl (wanted_none rfl) (m_boxG rfl rfl) ?_
  rintro _ _ ⟨b3_1, rfl, rfl⟩
  refine F.q rfl rfl rfl (wanted_none rfl) (r_assign rfl) ?_
  refine F.nil ?_
  refine Nrm.seq ?_
  refine Tri.seq ?_
  refine Tri.reg (l := [0]) rfl ?_
  refine F.q rfl rfl rfl (wanted_none rfl) (r_assign rfl) ?_
  refine F.nil ?_
  refine Nrm.seq ?_
  refine Tri.seq ?_
  refine Tri.seq ?_
  refine Tri.reg (l := [0, 1, 2, 3]) rfl ?_
  refine F.q rfl rfl rfl (wanted_none rfl) (r_fieldAddr tf31_1 rfl) ?_
  refine F.q rfl rfl rfl (wanted_none rfl) (r_load ta22 rfl (fun w hw => cell_1 (box_cells (i := 0) rfl w hw) rfl)) ?_
  refine F.q rfl rfl rfl (wanted_none rfl) (r_len Try.underlying22 rfl hl_va0_1) ?_
  refine F.q rfl rfl rfl (wanted_none rfl) (r_move rfl) ?_
  refine F.nil ?_
  refine Nrm.seq ?_
  obtain ⟨x7, hE_1, h⟩ := bind_some h
  refine Tri.block ?_
  refine Tri.only [1, 2, 7, 11, 12, 13] rfl ?_
  refine Tri.pick [] rfl rfl ?_
  refine Tri.rounds (fun n e' C' => ∃ (x7' : Int) (x13' : Int), impl_steps.l0 k a0_1 a1 a2 n x7' x13' = some x7 ∧ e' = [(1, .int .i64 a1), (2, .int .i64 a2), (7, .int .i64 x7'), (11, va0_1), (12, .int .i64 (a0_1.length : Int)), (13, .int .i64 x13')] ∧ C' = Sep w noM []) k ?_ ?_ ?_
  · exact ⟨0, 0, hE_1, rfl, rfl⟩
  · rintro _ _ ⟨_, _, hE_1, _⟩
    rw [impl_steps.l0.eq_1] at hE_1; cases hE_1
  · rintro n_1 _ _ ⟨x7, x13, hE_1, rfl, rfl⟩ ih_1
    rw [impl_steps.l0.eq_2] at hE_1
    refine Tri.seq ?_
    refine Tri.reg (l := [0]) rfl ?_
    refine F.q rfl rfl rfl (wanted_none rfl) (r_lss rfl rfl) ?_
    refine F.nil ?_
    refine Nrm.seq ?_
    refine Tri.seq ?_
    refine Tri.cond (b := decide (x13 < (a0_1.length : Int))) rfl (fun g_1 => ?_) (fun g_1 => ?_)
    · replace hE_1 := if_tt g_1 hE_1
      refine Tri.skip ?_
      refine Nrm.seq ?_
      refine Tri.seq ?_
      obtain ⟨y7rr, hE_2, hE_1⟩ := bind_some hE_1
      refine Tri.cut (fun e' C' => e' = [(1, .int .i64 a1), (2, .int .i64 a2), (7, .int .i64 y7rr), (11, va0_1), (12, .int .i64 (a0_1.length : Int)), (13, .int .i64 x13)] ∧ C' = Sep w noM []) ?_ (fun hj_1 => ?_)
      · rintro _ _ ⟨rfl, rfl⟩
        refine Nrm.seq ?_
        refine Tri.reg (l := [0, 1]) rfl ?_
        refine F.q rfl rfl rfl (wanted_none rfl) (r_add rfl rfl) ?_
        refine F.q rfl rfl rfl (wanted_none rfl) (r_move rfl) ?_
        refine F.nil ?_
        refine Nrm.round ?_
        refine Rnd.only [1, 2, 7, 11, 12, 13] rfl ?_
        refine Rnd.pick [] rfl rfl ?_
        exact ih_1 _ _ ⟨y7rr, w64 (x13 + 1), hE_1, rfl, rfl⟩
      · refine Tri.block ?_
        refine Tri.seq ?_
        obtain ⟨t15, h15, hE_2⟩ := bind_some hE_2
        refine Tri.reg (l := [0, 1, 2, 3]) rfl ?_
        refine F.q rfl rfl rfl (wanted_none rfl) (r_indexAddrS Try.underlying22 ti130 rfl hl_va0_1 rfl (rdl_some h15).1 (rdl_some h15).2.1) ?_
        refine F.q rfl rfl rfl (wanted_none rfl) (r_loadA ta130 ti130 rfl rfl (fun w hw => (Rd.flat ((fun _ hw => hr_a0_1.sep hw) w hw) (rdl_some h15).2.2))) ?_
        refine F.m rfl rfl rfl (wanted_none rfl) (m_alloc ti130) ?_
        rintro _ _ ⟨b9_1, rfl, rfl⟩
        refine F.ef0 rfl rfl (wanted_none rfl) (d_storeG0 (i := 0) (cs2 := [.int .i64 t15.1, .int .i64 t15.2.1, .int .i64 t15.2.2]) ti130 rfl rfl rfl rfl rfl (Nat.le_of_ble_eq_true rfl) (lf_cons rfl (lf_cons rfl (lf_cons rfl lf_nil)))) ?_
        rintro _ _ ⟨rfl, rfl⟩
        refine F.nil ?_
        refine Nrm.seq ?_
        refine Tri.seq ?_
        refine Tri.seq ?_
        obtain ⟨t20, h20, hE_2⟩ := bind_some hE_2
        refine Tri.reg (l := [0, 1, 2, 3, 4]) rfl ?_
        refine F.q rfl rfl rfl (wanted_none rfl) (r_move rfl) ?_
        refine F.q rfl rfl rfl (wanted_none rfl) (r_indexAddrA Try.underlying130 ti3 rfl rfl (by decide) (by decide)) ?_
        refine F.q rfl rfl rfl (wanted_none rfl) (r_load ta3 rfl (fun w hw => cell_1 (box_cells (i := 0) rfl w hw) rfl)) ?_
        refine F.qc rfl rfl rfl (wanted_none rfl) (q_callF (xs := _) rfl ok123 rfl rfl (fun w hw => impl_has.ok h20 w )) ?_
        refine F.q rfl rfl rfl (wanted_none rfl) (r_not rfl) ?_
        refine F.nil ?_
        refine Nrm.seq ?_
        refine Tri.cond (b := !t20) rfl (fun g_2 => ?_) (fun g_2 => ?_)
        · replace hE_2 := if_tt g_2 hE_2
          refine Tri.exit ?_
          refine Exi.then ?_
          refine Exi.same ?_
          cases hE_2
          refine Nrm.only [1, 2, 7, 11, 12, 13] rfl ?_
          refine Nrm.pick [] rfl rfl ?_
          exact hj_1 _ _ ⟨rfl, rfl⟩
        · replace hE_2 := if_ff g_2 hE_2
          refine Tri.skip ?_
          refine Nrm.seq ?_
          refine Tri.seq ?_
          refine Tri.seq ?_
          refine Tri.reg (l := [0, 1, 2, 3]) rfl ?_
          refine F.q rfl rfl rfl (wanted_none rfl) (r_indexAddrA Try.underlying130 ti3 rfl rfl (by decide) (by decide)) ?_
          refine F.q rfl rfl rfl (wanted_none rfl) (r_load ta3 rfl (fun w hw => cell_1 (box_cells (i := 0) rfl w hw) rfl)) ?_
          refine F.q rfl rfl rfl (wanted_none rfl) (r_move rfl) ?_
          refine F.q rfl rfl rfl (wanted_none rfl) (r_eql rfl rfl) ?_
          refine F.nil ?_
          refine Nrm.seq ?_
          obtain ⟨y7rr, hE_3, hE_2⟩ := bind_some hE_2
          refine Tri.cut (fun e' C' => e' = [(1, .int .i64 a1), (2, .int .i64 a2), (7, .int .i64 y7rr), (9, .pointer (some ⟨b9_1, 0, none⟩)), (11, va0_1), (12, .int .i64 (a0_1.length : Int)), (13, .int .i64 x13)] ∧ C' = Sep w noM [R.box b9_1 130 [.int .i64 t15.1, .int .i64 t15.2.1, .int .i64 t15.2.2]]) ?_ (fun hj_2 => ?_)
          · rintro _ _ ⟨rfl, rfl⟩
            refine Nrm.seq ?_
            refine Tri.seq ?_
            refine Tri.reg (l := [0, 1, 2, 3]) rfl ?_
            refine F.q rfl rfl rfl (wanted_none rfl) (r_indexAddrA Try.underlying130 ti3 rfl rfl (by decide) (by decide)) ?_
            refine F.q rfl rfl rfl (wanted_none rfl) (r_load ta3 rfl (fun w hw => cell_1 (box_cells (i := 0) rfl w hw) rfl)) ?_
            refine F.q rfl rfl rfl (wanted_none rfl) (r_move rfl) ?_
            refine F.q rfl rfl rfl (wanted_none rfl) (r_eql rfl rfl) ?_
            refine F.nil ?_
            refine Nrm.seq ?_
            obtain ⟨y7rrr, hE_4, hE_2⟩ := bind_some hE_2
            refine Tri.cut (fun e' C' => e' = [(1, .int .i64 a1), (2, .int .i64 a2), (7, .int .i64 y7rrr), (11, va0_1), (12, .int .i64 (a0_1.length : Int)), (13, .int .i64 x13)] ∧ C' = Sep w noM []) ?_ (fun hj_3 => ?_)
            · rintro _ _ ⟨rfl, rfl⟩
              refine Nrm.block ?_
              cases hE_2
              refine Nrm.only [1, 2, 7, 11, 12, 13] rfl ?_
              refine Nrm.pick [] rfl rfl ?_
              exact hj_1 _ _ ⟨rfl, rfl⟩
            · refine Tri.cond (b := t15.2.1 == a1) rfl (fun g_4 => ?_) (fun g_4 => ?_)
              · replace hE_4 := if_tt g_4 hE_4
                obtain ⟨hs38, hE_4⟩ := ck hE_4
                refine Tri.reg (l := [0, 1, 2, 3, 4, 5]) rfl ?_
                refine F.q rfl rfl rfl (wanted_none rfl) (r_move rfl) ?_
                refine F.q rfl rfl rfl (wanted_none rfl) (r_indexAddrA Try.underlying130 ti3 rfl rfl (by decide) (by decide)) ?_
                refine F.q rfl rfl rfl (wanted_none rfl) (r_load ta3 rfl (fun w hw => cell_1 (box_cells (i := 0) rfl w hw) rfl)) ?_
                refine F.q rfl rfl rfl (wanted_none rfl) (r_shl rfl rfl hs38) ?_
                refine F.q rfl rfl rfl (wanted_none rfl) (r_or rfl rfl) ?_
                refine F.q rfl rfl rfl (wanted_none rfl) (r_assign rfl) ?_
                refine F.nil ?_
                cases hE_4
                refine Nrm.only [1, 2, 7, 11, 12, 13] rfl ?_
                refine Nrm.pick [] rfl rfl ?_
                exact hj_3 _ _ ⟨rfl, rfl⟩
              · replace hE_4 := if_ff g_4 hE_4
                refine Tri.skip ?_
                cases hE_4
                refine Nrm.only [1, 2, 7, 11, 12, 13] rfl ?_
                refine Nrm.pick [] rfl rfl ?_
                exact hj_3 _ _ ⟨rfl, rfl⟩
          · refine Tri.cond (b := t15.1 == a1) rfl (fun g_3 => ?_) (fun g_3 => ?_)
            · replace hE_3 := if_tt g_3 hE_3
              obtain ⟨hs29, hE_3⟩ := ck hE_3
              refine Tri.reg (l := [0, 1, 2, 3, 4, 5]) rfl ?_
              refine F.q rfl rfl rfl (wanted_none rfl) (r_move rfl) ?_
              refine F.q rfl rfl rfl (wanted_none rfl) (r_indexAddrA Try.underlying130 ti3 rfl rfl (by decide) (by decide)) ?_
              refine F.q rfl rfl rfl (wanted_none rfl) (r_load ta3 rfl (fun w hw => cell_1 (box_cells (i := 0) rfl w hw) rfl)) ?_
              refine F.q rfl rfl rfl (wanted_none rfl) (r_shl rfl rfl hs29) ?_
              refine F.q rfl rfl rfl (wanted_none rfl) (r_or rfl rfl) ?_
              refine F.q rfl rfl rfl (wanted_none rfl) (r_assign rfl) ?_
              refine F.nil ?_
              cases hE_3
              refine Nrm.only [1, 2, 7, 9, 11, 12, 13] rfl ?_
              refine Nrm.pick [0] rfl rfl ?_
              exact hj_2 _ _ ⟨rfl, rfl⟩
            · replace hE_3 := if_ff g_3 hE_3
              refine Tri.skip ?_
              cases hE_3
              refine Nrm.only [1, 2, 7, 9, 11, 12, 13] rfl ?_
              refine Nrm.pick [0] rfl rfl ?_
              exact hj_2 _ _ ⟨rfl, rfl⟩
    · replace hE_1 := if_ff g_1 hE_1
      refine Tri.exit ?_
      refine Exi.then ?_
      refine Exi.then ?_
      refine Exi.same ?_
      cases hE_1
      refine Nrm.seq ?_
      refine Tri.seq ?_
      refine Tri.reg (l := [0, 1]) rfl ?_
      refine F.q rfl rfl rfl (wanted_none rfl) (r_move rfl) ?_
      refine F.q rfl rfl rfl (wanted_none rfl) (r_assign rfl) ?_
      refine F.nil ?_
      refine Nrm.seq ?_
      refine Tri.ret ?_
      cases h
      exact Rtn.body (.tmp rfl .nil) (fun w hw => ⟨rfl, hw.ext⟩)

end Go.Proofs

/- loop.example/g01158/impl.reach -/
namespace Go.Proofs
open Go Go.Ga
set_option linter.unusedVariables false
set_option maxRecDepth 100000
set_option maxHeartbeats 4000000
def impl_reach.l0 (k : Nat) (a0_0 : Int) (a0_1 : List (Int × Int × Int)) (a0_2 : List Int) (a2 : Int) : Nat → Int → (List (Int)) → Option (Int)
  | 0, _, _ => none
  | n + 1, x7, x8 => (if (decide ((x8.length : Int) > 0)) = true then (rdl x8 0).bind fun t19 => (impl_steps.f k a0_0 a0_1 a0_2 t19 a2).bind fun t22 => (slc x8 1 (x8.length : Int)).bind fun t29 => (impl_members.f k (bclr t22 x7)).bind fun t31 => if (t29 ++ t31).length < 1099511627776 then impl_reach.l0 k a0_0 a0_1 a0_2 a2 n (bor x7 (bclr t22 x7)) (t29 ++ t31) else none else some x7)

def impl_reach.f (k : Nat) (a0_0 : Int) (a0_1 : List (Int × Int × Int)) (a0_2 : List Int) (a1 : Int) (a2 : Int) : Option (Int) := if ¬ a1 < 0 then (impl_reach.l0 k a0_0 a0_1 a0_2 a2 k (shl 1 a1) ([a1] : List (Int))).bind fun x7 => some x7 else none

theorem impl_reach.ok {k : Nat}  {a0_0 : Int} {a0_1 : List (Int × Int × Int)} {a0_2 : List Int} {a1 : Int} {a2 : Int} {r0 : Int} (h : impl_reach.f k a0_0 a0_1 a0_2 a1 a2 = some r0) (w : World) {va0_1 : Value} {va0_2 : Value} (hr_a0_1 : Rd w va0_1 a0_1) (hr_a0_2 : Rd w va0_2 a0_2) :
    Calls Try.prog 89 ([.agg ([.int .i64 a0_0, va0_1, va0_2].toArray), .int .i64 a1, .int .i64 a2] : List Value).toArray w (fun e w' => e = .returned (.int .i64 r0) ∧ Ext w w') := by
  unfold impl_reach.f at h
  have hl_va0_1 := hr_a0_1.len
  have hl_va0_2 := hr_a0_2.len
  refine Calls.of_tri (N := 34) Try.func89 rfl rfl rfl (Sep.nil (M := noM)) ?_
  refine Tri.seq ?_
  refine Tri.reg (l := [0, 1]) rfl ?_
  refine F.m rfl rfl rfl (wanted_none rfl) (m_boxG rfl rfl) ?_
  rintro _ _ ⟨b3_1, rfl, rfl⟩
  refine F.q rfl rfl rfl (wanted_none rfl) (r_assign rfl) ?_
  refine F.nil ?_
  refine Nrm.seq ?_
  refine Tri.seq ?_
  obtain ⟨hs11, h⟩ := ck h
  refine Tri.reg (l := [0, 1, 2, 3, 4, 5]) rfl ?_
  refine F.q rfl rfl rfl (wanted_none rfl) (r_move rfl) ?_
  refine F.q rfl rfl rfl (wanted_none rfl) (r_shl rfl rfl hs11) ?_
  refine F.q rfl rfl rfl (wanted_none rfl) (r_move rfl) ?_
  refine F.m rfl rfl rfl (wanted_none rfl) (m_buildF (l := ([a1] : List (Int))) Try.underlying23 ti3 rfl rfl rfl rfl rfl) ?_
  rintro v13_1 _ ⟨S13_1, hl_v13_1, rfl⟩
  refine F.q rfl rfl rfl (wanted_none rfl) (r_assign rfl) ?_
  refine F.q rfl rfl rfl (wanted_none rfl) (r_assign rfl) ?_
  refine F.nil ?_
  refine Nrm.seq ?_
  refine Tri.seq ?_
  obtain ⟨x7, hE_1, h⟩ := bind_some h
  refine Tri.block ?_
  refine Tri.only [2, 3, 7, 8] rfl ?_
  refine Tri.pick [1, 0] rfl rfl ?_
  refine Tri.rounds (fun n e' C' => ∃ (x7' : Int) (x8' : List (Int)) (w8 : Value) (T8 : Nat → Prop), impl_reach.l0 k a0_0 a0_1 a0_2 a2 n x7' x8' = some x7 ∧ SlLen w8 (x8').length ∧ e' = [(2, .int .i64 a2), (3, .pointer (some ⟨b3_1, 0, none⟩)), (7, .int .i64 x7'), (8, w8)] ∧ C' = Sep w noM [R.box b3_1 31 [.int .i64 a0_0, va0_1, va0_2], R.sl T8 w8 (x8' : List (Int))]) k ?_ ?_ ?_
  · exact ⟨shl 1 a1, ([a1] : List (Int)), v13_1, S13_1, hE_1, hl_v13_1, rfl, rfl⟩
  · rintro _ _ ⟨_, _, _, _, hE_1, _⟩
    rw [impl_reach.l0.eq_1] at hE_1; cases hE_1
  · rintro n_1 _ _ ⟨x7, x8, w8, T8, hE_1, hl_w8, rfl, rfl⟩ ih_1
    rw [impl_reach.l0.eq_2] at hE_1
    refine Tri.seq ?_
    refine Tri.seq ?_
    refine Tri.reg (l := [0, 1, 2]) rfl ?_
    refine F.q rfl rfl rfl (wanted_none rfl) (r_move rfl) ?_
    refine F.q rfl rfl rfl (wanted_none rfl) (r_len Try.underlying23 rfl hl_w8) ?_
    refine F.q rfl rfl rfl (wanted_none rfl) (r_gtr rfl rfl) ?_
    refine F.nil ?_
    refine Nrm.seq ?_
    refine Tri.cond (b := decide ((x8.length : Int) > 0)) rfl (fun g_1 => ?_) (fun g_1 => ?_)
    · replace hE_1 := if_tt g_1 hE_1
      refine Tri.skip ?_
      refine Nrm.seq ?_
      refine Tri.block ?_
      refine Tri.seq ?_
      obtain ⟨t19, h19, hE_1⟩ := bind_some hE_1
      obtain ⟨t22, h22, hE_1⟩ := bind_some hE_1
      refine Tri.drawA mixedT Sep.up [(0, true), (1, true), (2, true), (3, true), (4, true), (5, true), (6, true), (7, true), (8, true)] [] (by kernel_rfl) ?_
      refine S.q rfl rfl rfl (wanted_none rfl) (r_loadA ta31 ti31 rfl rfl (fun w hw => (box_cells (i := 0) rfl w hw))) ?_
      refine S.q rfl rfl rfl (wanted_none rfl) (r_move rfl) ?_
      refine S.q rfl rfl rfl (wanted_none rfl) (r_indexAddrS Try.underlying23 ti3 rfl hl_w8 rfl (rdl_some h19).1 (rdl_some h19).2.1) ?_
      refine S.q rfl rfl rfl (wanted_none rfl) (r_load ta3 rfl (fun w hw => cell_0 (Rd.flat ((rd_sl (i := 1) rfl) w hw) (rdl_some h19).2.2) rfl)) ?_
      refine S.q rfl rfl rfl (wanted_none rfl) (r_move rfl) ?_
      refine S.qc rfl rfl rfl (wanted_none rfl) (q_callF (xs := _) rfl ok140 rfl rfl (fun w hw => impl_steps.ok h22 w ((fun _ hw => hr_a0_1.sep hw) w hw) ((fun _ hw => hr_a0_2.sep hw) w hw))) ?_
      refine S.q rfl rfl rfl (wanted_none rfl) (r_move rfl) ?_
      refine S.q rfl rfl rfl (wanted_none rfl) (r_andNot rfl rfl) ?_
      refine S.q rfl rfl rfl (wanted_none rfl) (r_assign rfl) ?_
      refine S.nil ?_
      refine F.nil ?_
      refine Nrm.seq ?_
      refine Tri.seq ?_
      refine Tri.reg (l := [0, 1, 2, 3]) rfl ?_
      refine F.q rfl rfl rfl (wanted_none rfl) (r_move rfl) ?_
      refine F.q rfl rfl rfl (wanted_none rfl) (r_move rfl) ?_
      refine F.q rfl rfl rfl (wanted_none rfl) (r_or rfl rfl) ?_
      refine F.q rfl rfl rfl (wanted_none rfl) (r_assign rfl) ?_
      refine F.nil ?_
      refine Nrm.seq ?_
      obtain ⟨t29, h29, hE_1⟩ := bind_some hE_1
      obtain ⟨t31, h31, hE_1⟩ := bind_some hE_1
      obtain ⟨hs32, hE_1⟩ := ck hE_1
      refine Tri.drawA mixedT Sep.up [(0, true), (1, true), (2, true), (3, false)] [4, 5] (by kernel_rfl) ?_
      refine S.q rfl rfl rfl (wanted_none rfl) (r_move rfl) ?_
      refine S.q rfl rfl rfl (wanted_none rfl) (r_sliceL Try.underlying23 ti3 rfl (rd_sl (i := 1) rfl) rfl h29) ?_
      refine S.q rfl rfl rfl (wanted_none rfl) (r_move rfl) ?_
      refine S.m rfl rfl rfl (wanted_none rfl) (m_callF (xs := _) rfl ok70 rfl rfl (fun w hw => impl_members.ok h31 w )) ?_
      rintro v31_2 _ ⟨_, ⟨S31_2, hl_v31_2, rfl⟩, rfl⟩
      refine S.nil ?_
      refine F.ef rfl rfl rfl (wanted_none rfl) (Does.pre (fun w hw => Sep.resl (i := 2) rfl h29 hw) <| d_append (i := 2) Try.underlying23 Try.underlying23 ti3 rfl (by decide) rfl rfl rfl (rd_sl (i := 0) rfl) hs32) ?_
      rintro v32_2 _ ⟨S32_2, rfl, hl_v32_2⟩
      refine F.q rfl rfl rfl (wanted_none rfl) (r_assign rfl) ?_
      refine F.nil ?_
      refine Nrm.block ?_
      refine Nrm.round ?_
      refine Rnd.only [2, 3, 7, 8] rfl ?_
      refine Rnd.pick [1, 2] rfl rfl ?_
      exact ih_1 _ _ ⟨bor x7 (bclr t22 x7), t29 ++ t31, v32_2, S32_2, hE_1, hl_v32_2, rfl, rfl⟩
    · replace hE_1 := if_ff g_1 hE_1
      refine Tri.exit ?_
      refine Exi.then ?_
      refine Exi.then ?_
      refine Exi.same ?_
      cases hE_1
      refine Nrm.seq ?_
      refine Tri.seq ?_
      refine Tri.reg (l := [0, 1]) rfl ?_
      refine F.q rfl rfl rfl (wanted_none rfl) (r_move rfl) ?_
      refine F.q rfl rfl rfl (wanted_none rfl) (r_assign rfl) ?_
      refine F.nil ?_
      refine Nrm.seq ?_
      refine Tri.ret ?_
      cases h
      exact Rtn.body (.tmp rfl .nil) (fun w hw => ⟨rfl, hw.ext⟩)

end Go.Proofs

/- loop.example/g01158/impl.rounds -/
namespace Go.Proofs
open Go Go.Ga
set_option linter.unusedVariables false
set_option maxRecDepth 100000
set_option maxHeartbeats 4000000
def impl_rounds.l1 (k : Nat) (a0_2 : List Int) (t18 : List Int) : Nat → Int → Int → Option (Int)
  | 0, _, _ => none
  | n + 1, x8, x20 => (if (decide (x20 < (t18.length : Int))) = true then (rdl t18 x20).bind fun t22 => (rdl a0_2 t22).bind fun t28 => impl_rounds.l1 k a0_2 t18 n (bor x8 t28) (w64 (x20 + 1)) else some x8)

def impl_rounds.l0 (k : Nat) (a0_0 : Int) (a0_1 : List (Int × Int × Int)) (a0_2 : List Int) : Nat → (List (Int × Int)) → Int → Option ((Unit) ⊕ ((List (Int × Int))))
  | 0, _, _ => none
  | n + 1, x5, x6 => (impl_reach.f k a0_0 a0_1 a0_2 0 x6).bind fun t15 => (impl_members.f k t15).bind fun t18 => (impl_rounds.l1 k a0_2 t18 k x6 0).bind fun x8 => if (x5 ++ ([(x6, t15)] : List (Int × Int))).length < 1099511627776 then (if (x8 == x6) = true then some (Sum.inr (x5 ++ ([(x6, t15)] : List (Int × Int)))) else impl_rounds.l0 k a0_0 a0_1 a0_2 n (x5 ++ ([(x6, t15)] : List (Int × Int))) x8) else none

def impl_rounds.f (k : Nat) (a0_0 : Int) (a0_1 : List (Int × Int × Int)) (a0_2 : List Int) (a1 : Int) : Option ((List (Int × Int))) := (impl_rounds.l0 k a0_0 a0_1 a0_2 k ([] : List (Int × Int)) a1).bind fun s => Lr s some fun _ => none

theorem impl_rounds.ok {k : Nat}  {a0_0 : Int} {a0_1 : List (Int × Int × Int)} {a0_2 : List Int} {a1 : Int} {r0 : List (Int × Int)} (h : impl_rounds.f k a0_0 a0_1 a0_2 a1 = some r0) (w : World) {va0_1 : Value} {va0_2 : Value} (hr_a0_1 : Rd w va0_1 a0_1) (hr_a0_2 : Rd w va0_2 a0_2) :
    Calls Try.prog 157 ([.agg ([.int .i64 a0_0, va0_1, va0_2].toArray), .int .i64 a1] : List Value).toArray w (Post (fun u ns => ∃ (Sr0 : Nat → Prop), SlLen u r0.length ∧ ns = [R.sl Sr0 u r0]) w) := by
  unfold impl_rounds.f at h
  have hl_va0_1 := hr_a0_1.len
  have hl_va0_2 := hr_a0_2.len
  refine Calls.of_tri (N := 43) Try.func157 rfl rfl rfl (Sep.nil (M := noM)) ?_
  refine Tri.seq ?_
  refine Tri.reg (l := [0, 1]) rfl ?_
  refine F.m rfl rfl rfl (wanted_none rfl) (m_boxG rfl rfl) ?_
  rintro _ _ ⟨b2_1, rfl, rfl⟩
  refine F.q rfl rfl rfl (wanted_none rfl) (r_assign rfl) ?_
  refine F.nil ?_
  refine Nrm.seq ?_
  refine Tri.seq ?_
  refine Tri.reg (l := [0, 1]) rfl ?_
  refine F.m rfl rfl rfl (wanted_none rfl) (m_build0 (α := Int × Int) Try.underlying148 ti136) ?_
  rintro v11_1 _ ⟨S11_1, hl_v11_1, rfl⟩
  refine F.q rfl rfl rfl (wanted_none rfl) (r_assign rfl) ?_
  refine F.nil ?_
  refine Nrm.seq ?_
  refine Tri.seq ?_
  refine Tri.reg (l := [0, 1]) rfl ?_
  refine F.q rfl rfl rfl (wanted_none rfl) (r_move rfl) ?_
  refine F.q rfl rfl rfl (wanted_none rfl) (r_assign rfl) ?_
  refine F.nil ?_
  refine Nrm.seq ?_
  obtain ⟨s0, hE_1, h⟩ := bind_some h
  refine Tri.block ?_
  refine Tri.only [2, 5, 6] rfl ?_
  refine Tri.pick [1, 0] rfl rfl ?_
  refine Tri.rounds (fun n e' C' => ∃ (x5' : List (Int × Int)) (x6' : Int) (w5 : Value) (T5 : Nat → Prop), impl_rounds.l0 k a0_0 a0_1 a0_2 n x5' x6' = some s0 ∧ SlLen w5 (x5').length ∧ e' = [(2, .pointer (some ⟨b2_1, 0, none⟩)), (5, w5), (6, .int .i64 x6')] ∧ C' = Sep w noM [R.box b2_1 31 [.int .i64 a0_0, va0_1, va0_2], R.sl T5 w5 (x5' : List (Int × Int))]) k ?_ ?_ ?_
  · exact ⟨([] : List (Int × Int)), a1, v11_1, S11_1, hE_1, hl_v11_1, rfl, rfl⟩
  · rintro _ _ ⟨_, _, _, _, hE_1, _⟩
    rw [impl_rounds.l0.eq_1] at hE_1; cases hE_1
  · rintro n_1 _ _ ⟨x5, x6, w5, T5, hE_1, hl_w5, rfl, rfl⟩ ih_1
    rw [impl_rounds.l0.eq_2] at hE_1
    refine Tri.block ?_
    refine Tri.seq ?_
    obtain ⟨t15, h15, hE_1⟩ := bind_some hE_1
    refine Tri.reg (l := [0, 1, 2, 3, 4, 5]) rfl ?_
    refine F.q rfl rfl rfl (wanted_none rfl) (r_loadA ta31 ti31 rfl rfl (fun w hw => (box_cells (i := 0) rfl w hw))) ?_
    refine F.q rfl rfl rfl (wanted_none rfl) (r_move rfl) ?_
    refine F.qc rfl rfl rfl (wanted_none rfl) (q_callF (xs := _) rfl ok89 rfl rfl (fun w hw => impl_reach.ok h15 w ((fun _ hw => hr_a0_1.sep hw) w hw) ((fun _ hw => hr_a0_2.sep hw) w hw))) ?_
    refine F.q rfl rfl rfl (wanted_none rfl) (r_move rfl) ?_
    refine F.q rfl rfl rfl (wanted_none rfl) (r_assign rfl) ?_
    refine F.q rfl rfl rfl (wanted_none rfl) (r_assign rfl) ?_
    refine F.nil ?_
    refine Nrm.seq ?_
    refine Tri.seq ?_
    refine Tri.seq ?_
    obtain ⟨t18, h18, hE_1⟩ := bind_some hE_1
    refine Tri.reg (l := [0, 1, 2, 3]) rfl ?_
    refine F.q rfl rfl rfl (wanted_none rfl) (r_move rfl) ?_
    refine F.m rfl rfl rfl (wanted_none rfl) (m_callF (xs := _) rfl ok70 rfl rfl (fun w hw => impl_members.ok h18 w )) ?_
    rintro v18_1 _ ⟨_, ⟨S18_1, hl_v18_1, rfl⟩, rfl⟩
    refine F.q rfl rfl rfl (wanted_none rfl) (r_len Try.underlying23 rfl hl_v18_1) ?_
    refine F.q rfl rfl rfl (wanted_none rfl) (r_move rfl) ?_
    refine F.nil ?_
    refine Nrm.seq ?_
    obtain ⟨x8, hE_2, hE_1⟩ := bind_some hE_1
    refine Tri.block ?_
    refine Tri.only [2, 5, 6, 7, 8, 18, 19, 20] rfl ?_
    refine Tri.pick [1, 0, 2] rfl rfl ?_
    refine Tri.rounds (fun n e' C' => ∃ (x8' : Int) (x20' : Int), impl_rounds.l1 k a0_2 t18 n x8' x20' = some x8 ∧ e' = [(2, .pointer (some ⟨b2_1, 0, none⟩)), (5, w5), (6, .int .i64 x6), (7, .int .i64 t15), (8, .int .i64 x8'), (18, v18_1), (19, .int .i64 (t18.length : Int)), (20, .int .i64 x20')] ∧ C' = Sep w noM [R.box b2_1 31 [.int .i64 a0_0, va0_1, va0_2], R.sl S18_1 v18_1 (t18 : List (Int)), R.sl T5 w5 (x5 : List (Int × Int))]) k ?_ ?_ ?_
    · exact ⟨x6, 0, hE_2, rfl, rfl⟩
    · rintro _ _ ⟨_, _, hE_2, _⟩
      rw [impl_rounds.l1.eq_1] at hE_2; cases hE_2
    · rintro n_2 _ _ ⟨x8, x20, hE_2, rfl, rfl⟩ ih_2
      rw [impl_rounds.l1.eq_2] at hE_2
      refine Tri.seq ?_
      refine Tri.reg (l := [0]) rfl ?_
      refine F.q rfl rfl rfl (wanted_none rfl) (r_lss rfl rfl) ?_
      refine F.nil ?_
      refine Nrm.seq ?_
      refine Tri.seq ?_
      refine Tri.cond (b := decide (x20 < (t18.length : Int))) rfl (fun g_1 => ?_) (fun g_1 => ?_)
      · replace hE_2 := if_tt g_1 hE_2
        refine Tri.skip ?_
        refine Nrm.seq ?_
        refine Tri.seq ?_
        refine Tri.block ?_
        refine Tri.seq ?_
        obtain ⟨t22, h22, hE_2⟩ := bind_some hE_2
        refine Tri.reg (l := [0, 1, 2]) rfl ?_
        refine F.q rfl rfl rfl (wanted_none rfl) (r_indexAddrS Try.underlying23 ti3 rfl hl_v18_1 rfl (rdl_some h22).1 (rdl_some h22).2.1) ?_
        refine F.q rfl rfl rfl (wanted_none rfl) (r_load ta3 rfl (fun w hw => cell_0 (Rd.flat ((rd_sl (i := 1) rfl) w hw) (rdl_some h22).2.2) rfl)) ?_
        refine F.q rfl rfl rfl (wanted_none rfl) (r_assign rfl) ?_
        refine F.nil ?_
        refine Nrm.seq ?_
        obtain ⟨t28, h28, hE_2⟩ := bind_some hE_2
        refine Tri.reg (l := [0, 1, 2, 3, 4, 5, 6, 7]) rfl ?_
        refine F.q rfl rfl rfl (wanted_none rfl) (r_move rfl) ?_
        refine F.q rfl rfl rfl (wanted_none rfl) (r_fieldAddr tf31_2 rfl) ?_
        refine F.q rfl rfl rfl (wanted_none rfl) (r_load ta23 rfl (fun w hw => cell_1 (box_cells (i := 0) rfl w hw) rfl)) ?_
        refine F.q rfl rfl rfl (wanted_none rfl) (r_move rfl) ?_
        refine F.q rfl rfl rfl (wanted_none rfl) (r_indexAddrS Try.underlying23 ti3 rfl hl_va0_2 rfl (rdl_some h28).1 (rdl_some h28).2.1) ?_
        refine F.q rfl rfl rfl (wanted_none rfl) (r_load ta3 rfl (fun w hw => cell_0 (Rd.flat ((fun _ hw => hr_a0_2.sep hw) w hw) (rdl_some h28).2.2) rfl)) ?_
        refine F.q rfl rfl rfl (wanted_none rfl) (r_or rfl rfl) ?_
        refine F.q rfl rfl rfl (wanted_none rfl) (r_assign rfl) ?_
        refine F.nil ?_
        refine Nrm.block ?_
        refine Nrm.seq ?_
        refine Tri.reg (l := [0, 1]) rfl ?_
        refine F.q rfl rfl rfl (wanted_none rfl) (r_add rfl rfl) ?_
        refine F.q rfl rfl rfl (wanted_none rfl) (r_move rfl) ?_
        refine F.nil ?_
        refine Nrm.round ?_
        refine Rnd.only [2, 5, 6, 7, 8, 18, 19, 20] rfl ?_
        refine Rnd.pick [0, 1, 2] rfl rfl ?_
        exact ih_2 _ _ ⟨bor x8 t28, w64 (x20 + 1), hE_2, rfl, rfl⟩
      · replace hE_2 := if_ff g_1 hE_2
        refine Tri.exit ?_
        refine Exi.then ?_
        refine Exi.then ?_
        refine Exi.same ?_
        cases hE_2
        refine Nrm.seq ?_
        refine Tri.seq ?_
        obtain ⟨hs37, hE_1⟩ := ck hE_1
        refine Tri.reg (l := [0, 1, 2, 3, 4, 5, 6]) rfl ?_
        refine F.q rfl rfl rfl (wanted_none rfl) (r_move rfl) ?_
        refine F.q rfl rfl rfl (wanted_none rfl) (r_move rfl) ?_
        refine F.q rfl rfl rfl (wanted_none rfl) (r_move rfl) ?_
        refine F.q rfl rfl rfl (wanted_none rfl) (r_build (pl := [(0, 1), (1, 1)]) (qs := [(0, [.int .i64 x6]), (1, [.int .i64 t15])]) (cs := [.int .i64 x6, .int .i64 t15]) (by kernel_rfl) ti136 rfl (.cons rfl rfl (Nat.le_of_ble_eq_true rfl) (.cons rfl rfl (Nat.le_of_ble_eq_true rfl) .nil)) rfl rfl) ?_
        refine F.m rfl rfl rfl (wanted_none rfl) (m_buildF (l := ([(x6, t15)] : List (Int × Int))) Try.underlying148 ti136 rfl rfl rfl rfl rfl) ?_
        rintro v36_1 _ ⟨S36_1, hl_v36_1, rfl⟩
        refine F.ef rfl rfl rfl (wanted_none rfl) (d_append (i := 3) Try.underlying148 Try.underlying148 ti136 rfl (by decide) rfl rfl rfl (rd_sl (i := 0) rfl) hs37) ?_
        rintro v37_1 _ ⟨S37_1, rfl, hl_v37_1⟩
        refine F.q rfl rfl rfl (wanted_none rfl) (r_assign rfl) ?_
        refine F.nil ?_
        refine Nrm.seq ?_
        refine Tri.seq ?_
        refine Tri.seq ?_
        refine Tri.reg (l := [0, 1, 2]) rfl ?_
        refine F.q rfl rfl rfl (wanted_none rfl) (r_move rfl) ?_
        refine F.q rfl rfl rfl (wanted_none rfl) (r_move rfl) ?_
        refine F.q rfl rfl rfl (wanted_none rfl) (r_eql rfl rfl) ?_
        refine F.nil ?_
        refine Nrm.seq ?_
        refine Tri.cond (b := x8 == x6) rfl (fun g_2 => ?_) (fun g_2 => ?_)
        · replace hE_1 := if_tt g_2 hE_1
          refine Tri.seq ?_
          refine Tri.reg (l := [0, 1]) rfl ?_
          refine F.q rfl rfl rfl (wanted_none rfl) (r_move rfl) ?_
          refine F.q rfl rfl rfl (wanted_none rfl) (r_assign rfl) ?_
          refine F.nil ?_
          refine Nrm.seq ?_
          refine Tri.ret ?_
          refine Rtn.then ?_
          refine Rtn.block ?_
          refine Rtn.then ?_
          refine Rtn.block ?_
          cases hE_1
          replace h := Lr_inr h
          cases h
          exact Rtn.body (.tmp rfl .nil) (fun w hw => ⟨_, _, rfl, ⟨S37_1, hl_v37_1, rfl⟩, Sep.pick (is := [3]) rfl rfl hw⟩)
        · replace hE_1 := if_ff g_2 hE_1
          refine Tri.skip ?_
          refine Nrm.seq ?_
          refine Tri.reg (l := [0, 1]) rfl ?_
          refine F.q rfl rfl rfl (wanted_none rfl) (r_move rfl) ?_
          refine F.q rfl rfl rfl (wanted_none rfl) (r_assign rfl) ?_
          refine F.nil ?_
          refine Nrm.block ?_
          refine Nrm.round ?_
          refine Rnd.only [2, 5, 6] rfl ?_
          refine Rnd.pick [1, 3] rfl rfl ?_
          exact ih_1 _ _ ⟨x5 ++ ([(x6, t15)] : List (Int × Int)), x8, v37_1, S37_1, hE_1, hl_v37_1, rfl, rfl⟩

end Go.Proofs

/- loop.example/g01158/impl.atLast -/
namespace Go.Proofs
open Go Go.Ga
set_option linter.unusedVariables false
set_option maxRecDepth 100000
set_option maxHeartbeats 4000000
def impl_atLast.f (k : Nat) (a0_0 : Int) (a0_1 : List (Int × Int × Int)) (a0_2 : List Int) (a1 : Int) : Option (Int × Int) := (impl_rounds.f k a0_0 a0_1 a0_2 a1).bind fun t8 => (rdl t8 (w64 ((t8.length : Int) - 1))).bind fun t13 => some (t13.1, t13.2)

theorem impl_atLast.ok {k : Nat}  {a0_0 : Int} {a0_1 : List (Int × Int × Int)} {a0_2 : List Int} {a1 : Int} {r0 : Int} {r1 : Int} (h : impl_atLast.f k a0_0 a0_1 a0_2 a1 = some (r0, r1)) (w : World) {va0_1 : Value} {va0_2 : Value} (hr_a0_1 : Rd w va0_1 a0_1) (hr_a0_2 : Rd w va0_2 a0_2) :
    Calls Try.prog 129 ([.agg ([.int .i64 a0_0, va0_1, va0_2].toArray), .int .i64 a1] : List Value).toArray w (fun e w' => e = .returned (.agg [.int .i64 r0, .int .i64 r1].toArray) ∧ Ext w w') := by
  unfold impl_atLast.f at h
  have hl_va0_1 := hr_a0_1.len
  have hl_va0_2 := hr_a0_2.len
  refine Calls.of_tri (N := 15) Try.func129 rfl rfl rfl (Sep.nil (M := noM)) ?_
  refine Tri.seq ?_
  refine Tri.reg (l := [0, 1]) rfl ?_
  refine F.m rfl rfl rfl (wanted_none rfl) (m_boxG rfl rfl) ?_
  rintro _ _ ⟨b2_1, rfl, rfl⟩
  refine F.m rfl rfl rfl (wanted_none rfl) (m_alloc ti136) ?_
  rintro _ _ ⟨b4_1, rfl, rfl⟩
  refine F.nil ?_
  refine Nrm.seq ?_
  refine Tri.seq ?_
  obtain ⟨t8, h8, h⟩ := bind_some h
  refine Tri.reg (l := [0, 1, 2, 3]) rfl ?_
  refine F.q rfl rfl rfl (wanted_none rfl) (r_loadA ta31 ti31 rfl rfl (fun w hw => (box_cells (i := 1) rfl w hw))) ?_
  refine F.q rfl rfl rfl (wanted_none rfl) (r_move rfl) ?_
  refine F.m rfl rfl rfl (wanted_none rfl) (m_callF (xs := _) rfl ok157 rfl rfl (fun w hw => impl_rounds.ok h8 w ((fun _ hw => hr_a0_1.sep hw) w hw) ((fun _ hw => hr_a0_2.sep hw) w hw))) ?_
  rintro v8_1 _ ⟨_, ⟨S8_1, hl_v8_1, rfl⟩, rfl⟩
  refine F.q rfl rfl rfl (wanted_none rfl) (r_assign rfl) ?_
  refine F.nil ?_
  refine Nrm.seq ?_
  refine Tri.seq ?_
  obtain ⟨t13, h13, h⟩ := bind_some h
  refine Tri.reg (l := [0, 1, 2, 3, 4, 5, 6]) rfl ?_
  refine F.q rfl rfl rfl (wanted_none rfl) (r_move rfl) ?_
  refine F.q rfl rfl rfl (wanted_none rfl) (r_move rfl) ?_
  refine F.q rfl rfl rfl (wanted_none rfl) (r_len Try.underlying148 rfl hl_v8_1) ?_
  refine F.q rfl rfl rfl (wanted_none rfl) (r_sub rfl rfl) ?_
  refine F.q rfl rfl rfl (wanted_none rfl) (r_indexAddrS Try.underlying148 ti136 rfl hl_v8_1 rfl (rdl_some h13).1 (rdl_some h13).2.1) ?_
  refine F.q rfl rfl rfl (wanted_none rfl) (r_loadA ta136 ti136 rfl rfl (fun w hw => (Rd.flat ((rd_sl (i := 0) rfl) w hw) (rdl_some h13).2.2))) ?_
  refine F.ef0 rfl rfl (wanted_none rfl) (d_storeG0 (i := 1) (cs2 := [.int .i64 t13.1, .int .i64 t13.2]) ti136 rfl rfl rfl rfl rfl (Nat.le_of_ble_eq_true rfl) (lf_cons rfl (lf_cons rfl lf_nil))) ?_
  rintro _ _ ⟨rfl, rfl⟩
  refine F.nil ?_
  refine Nrm.seq ?_
  refine Tri.ret ?_
  cases h
  exact Rtn.body (.cell rfl ta136 ti136 rfl (fun _ hw => box_cells (i := 1) rfl _ hw) .nil) (fun w hw => ⟨rfl, hw.ext⟩)

end Go.Proofs

/- loop.example/g01158/impl.canWin -/
namespace Go.Proofs
open Go Go.Ga
set_option linter.unusedVariables false
set_option maxRecDepth 100000
set_option maxHeartbeats 4000000
def impl_canWin.f (k : Nat) (a0_0 : Int) (a0_1 : List (Int × Int × Int)) (a0_2 : List Int) (a1 : Int) : Option (Bool) := (impl_atLast.f k a0_0 a0_1 a0_2 a1).bind fun (t7_1, t7_2) => if ¬ (w64 (a0_0 - 1)) < 0 then some ((band (shr t7_2 (w64 (a0_0 - 1))) 1) == 1) else none

theorem impl_canWin.ok {k : Nat}  {a0_0 : Int} {a0_1 : List (Int × Int × Int)} {a0_2 : List Int} {a1 : Int} {r0 : Bool} (h : impl_canWin.f k a0_0 a0_1 a0_2 a1 = some r0) (w : World) {va0_1 : Value} {va0_2 : Value} (hr_a0_1 : Rd w va0_1 a0_1) (hr_a0_2 : Rd w va0_2 a0_2) :
    Calls Try.prog 78 ([.agg ([.int .i64 a0_0, va0_1, va0_2].toArray), .int .i64 a1] : List Value).toArray w (fun e w' => e = .returned (.bool r0) ∧ Ext w w') := by
  unfold impl_canWin.f at h
  have hl_va0_1 := hr_a0_1.len
  have hl_va0_2 := hr_a0_2.len
  refine Calls.of_tri (N := 15) Try.func78 rfl rfl rfl (Sep.nil (M := noM)) ?_
  refine Tri.seq ?_
  refine Tri.reg (l := [0, 1]) rfl ?_
  refine F.m rfl rfl rfl (wanted_none rfl) (m_boxG rfl rfl) ?_
  rintro _ _ ⟨b2_1, rfl, rfl⟩
  refine F.q rfl rfl rfl (wanted_none rfl) (r_assign rfl) ?_
  refine F.nil ?_
  refine Nrm.seq ?_
  refine Tri.seq ?_
  obtain ⟨⟨t7_1, t7_2⟩, h7, h⟩ := bind_some h
  obtain ⟨hs12, h⟩ := ck h
  refine Tri.drawA mixedT Sep.up [(0, true), (1, true), (2, true), (3, true), (4, true), (5, true), (6, true), (7, true), (8, true), (9, true), (10, true)] [] (by kernel_rfl) ?_
  refine S.q rfl rfl rfl (wanted_none rfl) (r_loadA ta31 ti31 rfl rfl (fun w hw => (box_cells (i := 0) rfl w hw))) ?_
  refine S.q rfl rfl rfl (wanted_none rfl) (r_move rfl) ?_
  refine S.qc rfl rfl rfl (wanted_none rfl) (q_callF (xs := _) rfl ok129 rfl rfl (fun w hw => impl_atLast.ok h7 w ((fun _ hw => hr_a0_1.sep hw) w hw) ((fun _ hw => hr_a0_2.sep hw) w hw))) ?_
  refine S.q rfl rfl rfl (wanted_none rfl) (r_field Try.underlying136 rfl ta3 rfl rfl) ?_
  refine S.q rfl rfl rfl (wanted_none rfl) (r_fieldAddr tf31_0 rfl) ?_
  refine S.q rfl rfl rfl (wanted_none rfl) (r_load ta3 rfl (fun w hw => cell_1 (box_cells (i := 0) rfl w hw) rfl)) ?_
  refine S.q rfl rfl rfl (wanted_none rfl) (r_sub rfl rfl) ?_
  refine S.q rfl rfl rfl (wanted_none rfl) (r_shr rfl rfl hs12) ?_
  refine S.q rfl rfl rfl (wanted_none rfl) (r_and rfl rfl) ?_
  refine S.q rfl rfl rfl (wanted_none rfl) (r_eql rfl rfl) ?_
  refine S.q rfl rfl rfl (wanted_none rfl) (r_assign rfl) ?_
  refine S.nil ?_
  refine F.nil ?_
  refine Nrm.seq ?_
  refine Tri.ret ?_
  cases h
  exact Rtn.body (.tmp rfl .nil) (fun w hw => ⟨rfl, hw.ext⟩)

end Go.Proofs

/- loop.example/g01158/impl.within -/

namespace Go.Proofs
open Go Go.Ga
set_option linter.unusedVariables false
set_option maxRecDepth 100000
set_option maxHeartbeats 4000000
def impl_within.f (k : Nat) (a0 : Int) (a1 : Int) (a2 : Int) : Option (Bool) := ((if (decide (a1 ≤ a0)) = true then some (decide (a0 ≤ a2)) else some false)).bind fun y6 => some y6

theorem impl_within.ok {k : Nat}  {a0 : Int} {a1 : Int} {a2 : Int} {r0 : Bool} (h : impl_within.f k a0 a1 a2 = some r0) (w : World) :
    Calls Try.prog 138 ([.int .i64 a0, .int .i64 a1, .int .i64 a2] : List Value).toArray w (fun e w' => e = .returned (.bool r0) ∧ Ext w w') := by
  unfold impl_within.f at h
  refine Calls.of_tri (N := 15) Try.func138 rfl rfl rfl (Sep.nil (M := noM)) ?_
  refine Tri.seq ?_
  refine Tri.reg (l := [0]) rfl ?_
  refine F.q rfl rfl rfl (wanted_none rfl) (r_assign rfl) ?_
  refine F.nil ?_
  refine Nrm.seq ?_
  refine Tri.seq ?_
  obtain ⟨y6, hE_1, h⟩ := bind_some h
  refine Tri.cut (fun e' C' => e' = [(6, .bool y6)] ∧ C' = Sep w noM []) ?_ (fun hj_1 => ?_)
  · rintro _ _ ⟨rfl, rfl⟩
    refine Nrm.seq ?_
    refine Tri.ret ?_
    cases h
    exact Rtn.body (.tmp rfl .nil) (fun w hw => ⟨rfl, hw.ext⟩)
  · rcases Bool.eq_false_or_eq_true (decide (a1 ≤ a0)) with g10 | g10
    · replace hE_1 := if_tt g10 hE_1
      refine Tri.reg (l := [0, 1, 2, 3, 4, 5, 6, 7, 8]) rfl ?_
      refine F.q rfl rfl rfl (wanted_none rfl) (r_move rfl) ?_
      refine F.q rfl rfl rfl (wanted_none rfl) (r_move rfl) ?_
      refine F.q rfl rfl rfl (wanted_none rfl) (r_leq rfl rfl) ?_
      refine F.q rfl rfl rfl (wanted_none rfl) (r_move rfl) ?_
      refine F.q rfl rfl rfl (wg rfl rfl rfl g10) (r_move rfl) ?_
      refine F.q rfl rfl rfl (wg rfl rfl rfl g10) (r_move rfl) ?_
      refine F.q rfl rfl rfl (wg rfl rfl rfl g10) (r_leq rfl rfl) ?_
      refine F.q rfl rfl rfl (wanted_none rfl) (r_pick rfl rfl g10) ?_
      refine F.q rfl rfl rfl (wanted_none rfl) (r_assign rfl) ?_
      refine F.nil ?_
      cases hE_1
      refine Nrm.only [6] rfl ?_
      refine Nrm.pick [] rfl rfl ?_
      exact hj_1 _ _ ⟨rfl, rfl⟩
    · replace hE_1 := if_ff g10 hE_1
      refine Tri.reg (l := [0, 1, 2, 3, 4, 5, 6, 7, 8]) rfl ?_
      refine F.q rfl rfl rfl (wanted_none rfl) (r_move rfl) ?_
      refine F.q rfl rfl rfl (wanted_none rfl) (r_move rfl) ?_
      refine F.q rfl rfl rfl (wanted_none rfl) (r_leq rfl rfl) ?_
      refine F.q rfl rfl rfl (wanted_none rfl) (r_move rfl) ?_
      refine F.sk rfl rfl rfl (wf rfl rfl rfl g10) ?_
      refine F.sk rfl rfl rfl (wf rfl rfl rfl g10) ?_
      refine F.sk rfl rfl rfl (wf rfl rfl rfl g10) ?_
      refine F.q rfl rfl rfl (wanted_none rfl) (r_pickf rfl rfl g10) ?_
      refine F.q rfl rfl rfl (wanted_none rfl) (r_assign rfl) ?_
      refine F.nil ?_
      cases hE_1
      refine Nrm.only [6] rfl ?_
      refine Nrm.pick [] rfl rfl ?_
      exact hj_1 _ _ ⟨rfl, rfl⟩

end Go.Proofs

/- loop.example/g01158/impl.isSet -/
namespace Go.Proofs
open Go Go.Ga
set_option linter.unusedVariables false
set_option maxRecDepth 100000
set_option maxHeartbeats 4000000
def impl_isSet.f (k : Nat) (a0 : Int) : Option (Bool) := (impl_within.f k a0 0 63).bind fun t4 => some t4

theorem impl_isSet.ok {k : Nat}  {a0 : Int} {r0 : Bool} (h : impl_isSet.f k a0 = some r0) (w : World) :
    Calls Try.prog 122 ([.int .i64 a0] : List Value).toArray w (fun e w' => e = .returned (.bool r0) ∧ Ext w w') := by
  unfold impl_isSet.f at h
  refine Calls.of_tri (N := 5) Try.func122 rfl rfl rfl (Sep.nil (M := noM)) ?_
  refine Tri.seq ?_
  refine Tri.reg (l := [0]) rfl ?_
  refine F.q rfl rfl rfl (wanted_none rfl) (r_assign rfl) ?_
  refine F.nil ?_
  refine Nrm.seq ?_
  refine Tri.seq ?_
  obtain ⟨t4, h4, h⟩ := bind_some h
  refine Tri.reg (l := [0, 1, 2]) rfl ?_
  refine F.q rfl rfl rfl (wanted_none rfl) (r_move rfl) ?_
  refine F.qc rfl rfl rfl (wanted_none rfl) (q_callF (xs := _) rfl ok138 rfl rfl (fun w hw => impl_within.ok h4 w )) ?_
  refine F.q rfl rfl rfl (wanted_none rfl) (r_assign rfl) ?_
  refine F.nil ?_
  refine Nrm.seq ?_
  refine Tri.ret ?_
  cases h
  exact Rtn.body (.tmp rfl .nil) (fun w hw => ⟨rfl, hw.ext⟩)

end Go.Proofs

/- slices.IndexFunc[[]int,int] -/

namespace Go.Proofs
open Go Go.Ga
set_option linter.unusedVariables false
set_option maxRecDepth 100000
set_option maxHeartbeats 4000000
def slices_IndexFunc_int_int.l0 (k : Nat) (a0 : List Int) (a1 : (Int → Option (Bool))) : Nat → Int → Option ((Unit) ⊕ (Int))
  | 0, _ => none
  | n + 1, x8 => (if (decide (x8 < (a0.length : Int))) = true then (rdl a0 x8).bind fun t14 => (a1 t14).bind fun t16 => (if t16 = true then some (Sum.inr x8) else slices_IndexFunc_int_int.l0 k a0 a1 n (w64 (x8 + 1))) else some (Sum.inl ()))

def slices_IndexFunc_int_int.f (k : Nat) (a0 : List Int) (a1 : (Int → Option (Bool))) : Option (Int) := (slices_IndexFunc_int_int.l0 k a0 a1 k 0).bind fun s => Lr s some fun _ => some (-1)

theorem slices_IndexFunc_int_int.ok {k : Nat}  {a0 : List Int} {a1 : (Int → Option (Bool))} {r0 : Int} (h : slices_IndexFunc_int_int.f k a0 a1 = some r0) (w : World) {va0 : Value} (hr_a0 : Rd w va0 a0) {fi_a1 : FuncId} {ca_a1 : Array Value} (ho_a1 : CallOk Try.prog fi_a1) (hf_a1 : ∀ w2, Ext w w2 → ∀ (z0 : Int) (y : Bool), a1 z0 = some y → Calls Try.prog fi_a1 (([.int .i64 z0] : List Value) ++ ca_a1.toList).toArray w2 (fun e w3 => e = .returned (.bool y) ∧ Ext w2 w3)) :
    Calls Try.prog 163 ([va0, .func (.func fi_a1) #[] ca_a1] : List Value).toArray w (fun e w' => e = .returned (.int .i64 r0) ∧ Ext w w') := by
  unfold slices_IndexFunc_int_int.f at h
  have hl_va0 := hr_a0.len
  refine Calls.of_tri (N := 19) Try.func163 rfl rfl rfl (Sep.nil (M := noM)) ?_
  refine Tri.seq ?_
  refine Tri.reg (l := [0]) rfl ?_
  refine F.q rfl rfl rfl (wanted_none rfl) (r_assign rfl) ?_
  refine F.nil ?_
  refine Nrm.seq ?_
  refine Tri.seq ?_
  refine Tri.seq ?_
  refine Tri.reg (l := [0, 1, 2]) rfl ?_
  refine F.q rfl rfl rfl (wanted_none rfl) (r_move rfl) ?_
  refine F.q rfl rfl rfl (wanted_none rfl) (r_len Try.underlying23 rfl hl_va0) ?_
  refine F.q rfl rfl rfl (wanted_none rfl) (r_move rfl) ?_
  refine F.nil ?_
  refine Nrm.seq ?_
  obtain ⟨s0, hE_1, h⟩ := bind_some h
  refine Tri.block ?_
  refine Tri.only [0, 1, 7, 8] rfl ?_
  refine Tri.pick [] rfl rfl ?_
  refine Tri.rounds (fun n e' C' => ∃ (x8' : Int), slices_IndexFunc_int_int.l0 k a0 a1 n x8' = some s0 ∧ e' = [(0, va0), (1, .func (.func fi_a1) #[] ca_a1), (7, .int .i64 (a0.length : Int)), (8, .int .i64 x8')] ∧ C' = Sep w noM []) k ?_ ?_ ?_
  · exact ⟨0, hE_1, rfl, rfl⟩
  · rintro _ _ ⟨_, hE_1, _⟩
    rw [slices_IndexFunc_int_int.l0.eq_1] at hE_1; cases hE_1
  · rintro n_1 _ _ ⟨x8, hE_1, rfl, rfl⟩ ih_1
    rw [slices_IndexFunc_int_int.l0.eq_2] at hE_1
    refine Tri.seq ?_
    refine Tri.reg (l := [0]) rfl ?_
    refine F.q rfl rfl rfl (wanted_none rfl) (r_lss rfl rfl) ?_
    refine F.nil ?_
    refine Nrm.seq ?_
    refine Tri.seq ?_
    refine Tri.cond (b := decide (x8 < (a0.length : Int))) rfl (fun g_1 => ?_) (fun g_1 => ?_)
    · replace hE_1 := if_tt g_1 hE_1
      refine Tri.skip ?_
      refine Nrm.seq ?_
      refine Tri.seq ?_
      refine Tri.block ?_
      refine Tri.seq ?_
      refine Tri.reg (l := [0, 1]) rfl ?_
      refine F.q rfl rfl rfl (wanted_none rfl) (r_move rfl) ?_
      refine F.q rfl rfl rfl (wanted_none rfl) (r_assign rfl) ?_
      refine F.nil ?_
      refine Nrm.seq ?_
      refine Tri.seq ?_
      obtain ⟨t14, h14, hE_1⟩ := bind_some hE_1
      obtain ⟨t16, h16, hE_1⟩ := bind_some hE_1
      refine Tri.reg (l := [0, 1, 2, 3, 4, 5]) rfl ?_
      refine F.q rfl rfl rfl (wanted_none rfl) (r_move rfl) ?_
      refine F.q rfl rfl rfl (wanted_none rfl) (r_move rfl) ?_
      refine F.q rfl rfl rfl (wanted_none rfl) (r_move rfl) ?_
      refine F.q rfl rfl rfl (wanted_none rfl) (r_indexAddrS Try.underlying23 ti3 rfl hl_va0 rfl (rdl_some h14).1 (rdl_some h14).2.1) ?_
      refine F.q rfl rfl rfl (wanted_none rfl) (r_load ta3 rfl (fun w hw => cell_0 (Rd.flat ((fun _ hw => hr_a0.sep hw) w hw) (rdl_some h14).2.2) rfl)) ?_
      refine F.qc rfl rfl rfl (wanted_none rfl) (q_callC (xs := _) rfl ho_a1 rfl rfl (fun w hw => hf_a1 w hw.ext _  _ h16)) ?_
      refine F.nil ?_
      refine Nrm.seq ?_
      refine Tri.cond (b := t16) rfl (fun g_2 => ?_) (fun g_2 => ?_)
      · replace hE_1 := if_tt g_2 hE_1
        refine Tri.seq ?_
        refine Tri.reg (l := [0, 1]) rfl ?_
        refine F.q rfl rfl rfl (wanted_none rfl) (r_move rfl) ?_
        refine F.q rfl rfl rfl (wanted_none rfl) (r_assign rfl) ?_
        refine F.nil ?_
        refine Nrm.seq ?_
        refine Tri.ret ?_
        refine Rtn.block ?_
        refine Rtn.then ?_
        refine Rtn.then ?_
        refine Rtn.block ?_
        refine Rtn.then ?_
        cases hE_1
        replace h := Lr_inr h
        cases h
        exact Rtn.body (.tmp rfl .nil) (fun w hw => ⟨rfl, hw.ext⟩)
      · replace hE_1 := if_ff g_2 hE_1
        refine Tri.skip ?_
        refine Nrm.block ?_
        refine Nrm.seq ?_
        refine Tri.reg (l := [0, 1]) rfl ?_
        refine F.q rfl rfl rfl (wanted_none rfl) (r_add rfl rfl) ?_
        refine F.q rfl rfl rfl (wanted_none rfl) (r_move rfl) ?_
        refine F.nil ?_
        refine Nrm.round ?_
        refine Rnd.only [0, 1, 7, 8] rfl ?_
        refine Rnd.pick [] rfl rfl ?_
        exact ih_1 _ _ ⟨w64 (x8 + 1), hE_1, rfl, rfl⟩
    · replace hE_1 := if_ff g_1 hE_1
      refine Tri.exit ?_
      refine Exi.then ?_
      refine Exi.then ?_
      refine Exi.same ?_
      cases hE_1
      replace h := Lr_inl h
      refine Nrm.seq ?_
      refine Tri.seq ?_
      refine Tri.reg (l := [0]) rfl ?_
      refine F.q rfl rfl rfl (wanted_none rfl) (r_assign rfl) ?_
      refine F.nil ?_
      refine Nrm.seq ?_
      refine Tri.ret ?_
      cases h
      exact Rtn.body (.tmp rfl .nil) (fun w hw => ⟨rfl, hw.ext⟩)

end Go.Proofs

/- slices.ContainsFunc[[]int,int] -/
namespace Go.Proofs
open Go Go.Ga
set_option linter.unusedVariables false
set_option maxRecDepth 100000
set_option maxHeartbeats 4000000
def slices_ContainsFunc_int_int.f (k : Nat) (a0 : List Int) (a1 : (Int → Option (Bool))) : Option (Bool) := (slices_IndexFunc_int_int.f k a0 a1).bind fun t7 => some (decide (t7 ≥ 0))

theorem slices_ContainsFunc_int_int.ok {k : Nat}  {a0 : List Int} {a1 : (Int → Option (Bool))} {r0 : Bool} (h : slices_ContainsFunc_int_int.f k a0 a1 = some r0) (w : World) {va0 : Value} (hr_a0 : Rd w va0 a0) {fi_a1 : FuncId} {ca_a1 : Array Value} (ho_a1 : CallOk Try.prog fi_a1) (hf_a1 : ∀ w2, Ext w w2 → ∀ (z0 : Int) (y : Bool), a1 z0 = some y → Calls Try.prog fi_a1 (([.int .i64 z0] : List Value) ++ ca_a1.toList).toArray w2 (fun e w3 => e = .returned (.bool y) ∧ Ext w2 w3)) :
    Calls Try.prog 145 ([va0, .func (.func fi_a1) #[] ca_a1] : List Value).toArray w (fun e w' => e = .returned (.bool r0) ∧ Ext w w') := by
  unfold slices_ContainsFunc_int_int.f at h
  have hl_va0 := hr_a0.len
  refine Calls.of_tri (N := 9) Try.func145 rfl rfl rfl (Sep.nil (M := noM)) ?_
  refine Tri.seq ?_
  refine Tri.reg (l := [0]) rfl ?_
  refine F.q rfl rfl rfl (wanted_none rfl) (r_assign rfl) ?_
  refine F.nil ?_
  refine Nrm.seq ?_
  refine Tri.seq ?_
  obtain ⟨t7, h7, h⟩ := bind_some h
  refine Tri.reg (l := [0, 1, 2, 3, 4]) rfl ?_
  refine F.q rfl rfl rfl (wanted_none rfl) (r_move rfl) ?_
  refine F.q rfl rfl rfl (wanted_none rfl) (r_move rfl) ?_
  refine F.qc rfl rfl rfl (wanted_none rfl) (q_callF (xs := _) rfl ok163 rfl rfl (fun w hw => slices_IndexFunc_int_int.ok h7 w ((fun _ hw => hr_a0.sep hw) w hw) ho_a1 (fun w2 he2 => hf_a1 w2 (hw.ext.trans he2)))) ?_
  refine F.q rfl rfl rfl (wanted_none rfl) (r_geq rfl rfl) ?_
  refine F.q rfl rfl rfl (wanted_none rfl) (r_assign rfl) ?_
  refine F.nil ?_
  refine Nrm.seq ?_
  refine Tri.ret ?_
  cases h
  exact Rtn.body (.tmp rfl .nil) (fun w hw => ⟨rfl, hw.ext⟩)

end Go.Proofs

/- cmp.Or[int] -/

namespace Go.Proofs
open Go Go.Ga
set_option linter.unusedVariables false
set_option maxRecDepth 100000
set_option maxHeartbeats 4000000
def cmp_Or_int.l0 (k : Nat) (a0 : List Int) : Nat → Int → Option ((Unit) ⊕ (Int))
  | 0, _ => none
  | n + 1, x8 => (if (decide (x8 < (a0.length : Int))) = true then (rdl a0 x8).bind fun t10 => (if (t10 != 0) = true then some (Sum.inr t10) else cmp_Or_int.l0 k a0 n (w64 (x8 + 1))) else some (Sum.inl ()))

def cmp_Or_int.f (k : Nat) (a0 : List Int) : Option (Int) := (cmp_Or_int.l0 k a0 k 0).bind fun s => Lr s some fun _ => some 0

theorem cmp_Or_int.ok {k : Nat}  {a0 : List Int} {r0 : Int} (h : cmp_Or_int.f k a0 = some r0) (w : World) {va0 : Value} (hr_a0 : Rd w va0 a0) :
    Calls Try.prog 166 ([va0] : List Value).toArray w (fun e w' => e = .returned (.int .i64 r0) ∧ Ext w w') := by
  unfold cmp_Or_int.f at h
  have hl_va0 := hr_a0.len
  refine Calls.of_tri (N := 18) Try.func166 rfl rfl rfl (Sep.nil (M := noM)) ?_
  refine Tri.seq ?_
  refine Tri.reg (l := [0]) rfl ?_
  refine F.q rfl rfl rfl (wanted_none rfl) (r_assign rfl) ?_
  refine F.nil ?_
  refine Nrm.seq ?_
  refine Tri.seq ?_
  refine Tri.reg (l := [0]) rfl ?_
  refine F.q rfl rfl rfl (wanted_none rfl) (r_assign rfl) ?_
  refine F.nil ?_
  refine Nrm.seq ?_
  refine Tri.seq ?_
  refine Tri.seq ?_
  refine Tri.reg (l := [0, 1, 2]) rfl ?_
  refine F.q rfl rfl rfl (wanted_none rfl) (r_move rfl) ?_
  refine F.q rfl rfl rfl (wanted_none rfl) (r_len Try.underlying23 rfl hl_va0) ?_
  refine F.q rfl rfl rfl (wanted_none rfl) (r_move rfl) ?_
  refine F.nil ?_
  refine Nrm.seq ?_
  obtain ⟨s0, hE_1, h⟩ := bind_some h
  refine Tri.block ?_
  refine Tri.only [3, 6, 7, 8] rfl ?_
  refine Tri.pick [] rfl rfl ?_
  refine Tri.rounds (fun n e' C' => ∃ (x8' : Int), cmp_Or_int.l0 k a0 n x8' = some s0 ∧ e' = [(3, .int .i64 0), (6, va0), (7, .int .i64 (a0.length : Int)), (8, .int .i64 x8')] ∧ C' = Sep w noM []) k ?_ ?_ ?_
  · exact ⟨0, hE_1, rfl, rfl⟩
  · rintro _ _ ⟨_, hE_1, _⟩
    rw [cmp_Or_int.l0.eq_1] at hE_1; cases hE_1
  · rintro n_1 _ _ ⟨x8, hE_1, rfl, rfl⟩ ih_1
    rw [cmp_Or_int.l0.eq_2] at hE_1
    refine Tri.seq ?_
    refine Tri.reg (l := [0]) rfl ?_
    refine F.q rfl rfl rfl (wanted_none rfl) (r_lss rfl rfl) ?_
    refine F.nil ?_
    refine Nrm.seq ?_
    refine Tri.seq ?_
    refine Tri.cond (b := decide (x8 < (a0.length : Int))) rfl (fun g_1 => ?_) (fun g_1 => ?_)
    · replace hE_1 := if_tt g_1 hE_1
      refine Tri.skip ?_
      refine Nrm.seq ?_
      refine Tri.seq ?_
      refine Tri.block ?_
      refine Tri.seq ?_
      obtain ⟨t10, h10, hE_1⟩ := bind_some hE_1
      refine Tri.reg (l := [0, 1, 2]) rfl ?_
      refine F.q rfl rfl rfl (wanted_none rfl) (r_indexAddrS Try.underlying23 ti3 rfl hl_va0 rfl (rdl_some h10).1 (rdl_some h10).2.1) ?_
      refine F.q rfl rfl rfl (wanted_none rfl) (r_load ta3 rfl (fun w hw => cell_0 (Rd.flat ((fun _ hw => hr_a0.sep hw) w hw) (rdl_some h10).2.2) rfl)) ?_
      refine F.q rfl rfl rfl (wanted_none rfl) (r_assign rfl) ?_
      refine F.nil ?_
      refine Nrm.seq ?_
      refine Tri.seq ?_
      refine Tri.reg (l := [0, 1, 2]) rfl ?_
      refine F.q rfl rfl rfl (wanted_none rfl) (r_move rfl) ?_
      refine F.q rfl rfl rfl (wanted_none rfl) (r_move rfl) ?_
      refine F.q rfl rfl rfl (wanted_none rfl) (r_neq rfl rfl) ?_
      refine F.nil ?_
      refine Nrm.seq ?_
      refine Tri.cond (b := t10 != 0) rfl (fun g_2 => ?_) (fun g_2 => ?_)
      · replace hE_1 := if_tt g_2 hE_1
        refine Tri.seq ?_
        refine Tri.reg (l := [0, 1]) rfl ?_
        refine F.q rfl rfl rfl (wanted_none rfl) (r_move rfl) ?_
        refine F.q rfl rfl rfl (wanted_none rfl) (r_assign rfl) ?_
        refine F.nil ?_
        refine Nrm.seq ?_
        refine Tri.ret ?_
        refine Rtn.block ?_
        refine Rtn.then ?_
        refine Rtn.then ?_
        refine Rtn.block ?_
        refine Rtn.then ?_
        cases hE_1
        replace h := Lr_inr h
        cases h
        exact Rtn.body (.tmp rfl .nil) (fun w hw => ⟨rfl, hw.ext⟩)
      · replace hE_1 := if_ff g_2 hE_1
        refine Tri.skip ?_
        refine Nrm.block ?_
        refine Nrm.seq ?_
        refine Tri.reg (l := [0, 1]) rfl ?_
        refine F.q rfl rfl rfl (wanted_none rfl) (r_add rfl rfl) ?_
        refine F.q rfl rfl rfl (wanted_none rfl) (r_move rfl) ?_
        refine F.nil ?_
        refine Nrm.round ?_
        refine Rnd.only [3, 6, 7, 8] rfl ?_
        refine Rnd.pick [] rfl rfl ?_
        exact ih_1 _ _ ⟨w64 (x8 + 1), hE_1, rfl, rfl⟩
    · replace hE_1 := if_ff g_1 hE_1
      refine Tri.exit ?_
      refine Exi.then ?_
      refine Exi.then ?_
      refine Exi.same ?_
      cases hE_1
      replace h := Lr_inl h
      refine Nrm.seq ?_
      refine Tri.seq ?_
      refine Tri.reg (l := [0, 1]) rfl ?_
      refine F.q rfl rfl rfl (wanted_none rfl) (r_move rfl) ?_
      refine F.q rfl rfl rfl (wanted_none rfl) (r_assign rfl) ?_
      refine F.nil ?_
      refine Nrm.seq ?_
      refine Tri.ret ?_
      cases h
      exact Rtn.body (.tmp rfl .nil) (fun w hw => ⟨rfl, hw.ext⟩)

end Go.Proofs

/- cmp.isNaN[int] -/

namespace Go.Proofs
open Go Go.Ga
set_option linter.unusedVariables false
set_option maxRecDepth 100000
set_option maxHeartbeats 4000000
def cmp_isNaN_int.f (k : Nat) (a0 : Int) : Option (Bool) := some (a0 != a0)

theorem cmp_isNaN_int.ok {k : Nat}  {a0 : Int} {r0 : Bool} (h : cmp_isNaN_int.f k a0 = some r0) (w : World) :
    Calls Try.prog 170 ([.int .i64 a0] : List Value).toArray w (fun e w' => e = .returned (.bool r0) ∧ Ext w w') := by
  unfold cmp_isNaN_int.f at h
  refine Calls.of_tri (N := 6) Try.func170 rfl rfl rfl (Sep.nil (M := noM)) ?_
  refine Tri.seq ?_
  refine Tri.reg (l := [0]) rfl ?_
  refine F.q rfl rfl rfl (wanted_none rfl) (r_assign rfl) ?_
  refine F.nil ?_
  refine Nrm.seq ?_
  refine Tri.seq ?_
  refine Tri.reg (l := [0, 1, 2, 3]) rfl ?_
  refine F.q rfl rfl rfl (wanted_none rfl) (r_move rfl) ?_
  refine F.q rfl rfl rfl (wanted_none rfl) (r_move rfl) ?_
  refine F.q rfl rfl rfl (wanted_none rfl) (r_neq rfl rfl) ?_
  refine F.q rfl rfl rfl (wanted_none rfl) (r_assign rfl) ?_
  refine F.nil ?_
  refine Nrm.seq ?_
  refine Tri.ret ?_
  cases h
  exact Rtn.body (.tmp rfl .nil) (fun w hw => ⟨rfl, hw.ext⟩)

end Go.Proofs

/- cmp.Compare[int] -/
namespace Go.Proofs
open Go Go.Ga
set_option linter.unusedVariables false
set_option maxRecDepth 100000
set_option maxHeartbeats 4000000
def cmp_Compare_int.f (k : Nat) (a0 : Int) (a1 : Int) : Option (Int) := (cmp_isNaN_int.f k a0).bind fun t8 => (cmp_isNaN_int.f k a1).bind fun t10 => (if t8 = true then (if t10 = true then some 0 else some (-1)) else (if t10 = true then some 1 else (if (decide (a0 < a1)) = true then some (-1) else (if (decide (a0 > a1)) = true then some 1 else some 0))))

theorem cmp_Compare_int.ok {k : Nat}  {a0 : Int} {a1 : Int} {r0 : Int} (h : cmp_Compare_int.f k a0 a1 = some r0) (w : World) :
    Calls Try.prog 167 ([.int .i64 a0, .int .i64 a1] : List Value).toArray w (fun e w' => e = .returned (.int .i64 r0) ∧ Ext w w') := by
  unfold cmp_Compare_int.f at h
  refine Calls.of_tri (N := 20) Try.func167 rfl rfl rfl (Sep.nil (M := noM)) ?_
  refine Tri.seq ?_
  refine Tri.reg (l := [0]) rfl ?_
  refine F.q rfl rfl rfl (wanted_none rfl) (r_assign rfl) ?_
  refine F.nil ?_
  refine Nrm.seq ?_
  refine Tri.seq ?_
  obtain ⟨t8, h8, h⟩ := bind_some h
  refine Tri.reg (l := [0, 1, 2]) rfl ?_
  refine F.q rfl rfl rfl (wanted_none rfl) (r_move rfl) ?_
  refine F.qc rfl rfl rfl (wanted_none rfl) (q_callF (xs := _) rfl ok170 rfl rfl (fun w hw => cmp_isNaN_int.ok h8 w )) ?_
  refine F.q rfl rfl rfl (wanted_none rfl) (r_assign rfl) ?_
  refine F.nil ?_
  refine Nrm.seq ?_
  refine Tri.seq ?_
  obtain ⟨t10, h10, h⟩ := bind_some h
  refine Tri.reg (l := [0, 1, 2]) rfl ?_
  refine F.q rfl rfl rfl (wanted_none rfl) (r_move rfl) ?_
  refine F.qc rfl rfl rfl (wanted_none rfl) (q_callF (xs := _) rfl ok170 rfl rfl (fun w hw => cmp_isNaN_int.ok h10 w )) ?_
  refine F.q rfl rfl rfl (wanted_none rfl) (r_assign rfl) ?_
  refine F.nil ?_
  refine Nrm.seq ?_
  refine Tri.seq ?_
  refine Tri.seq ?_
  refine Tri.reg (l := [0]) rfl ?_
  refine F.q rfl rfl rfl (wanted_none rfl) (r_move rfl) ?_
  refine F.nil ?_
  refine Nrm.seq ?_
  refine Tri.cond (b := t8) rfl (fun g_1 => ?_) (fun g_1 => ?_)
  · replace h := if_tt g_1 h
    refine Tri.seq ?_
    refine Tri.seq ?_
    refine Tri.reg (l := [0]) rfl ?_
    refine F.q rfl rfl rfl (wanted_none rfl) (r_move rfl) ?_
    refine F.nil ?_
    refine Nrm.seq ?_
    refine Tri.cond (b := t10) rfl (fun g_2 => ?_) (fun g_2 => ?_)
    · replace h := if_tt g_2 h
      refine Tri.seq ?_
      refine Tri.reg (l := [0]) rfl ?_
      refine F.q rfl rfl rfl (wanted_none rfl) (r_assign rfl) ?_
      refine F.nil ?_
      refine Nrm.seq ?_
      refine Tri.ret ?_
      refine Rtn.then ?_
      refine Rtn.then ?_
      cases h
      exact Rtn.body (.tmp rfl .nil) (fun w hw => ⟨rfl, hw.ext⟩)
    · replace h := if_ff g_2 h
      refine Tri.skip ?_
      refine Nrm.seq ?_
      refine Tri.seq ?_
      refine Tri.reg (l := [0]) rfl ?_
      refine F.q rfl rfl rfl (wanted_none rfl) (r_assign rfl) ?_
      refine F.nil ?_
      refine Nrm.seq ?_
      refine Tri.ret ?_
      refine Rtn.then ?_
      cases h
      exact Rtn.body (.tmp rfl .nil) (fun w hw => ⟨rfl, hw.ext⟩)
  · replace h := if_ff g_1 h
    refine Tri.skip ?_
    refine Nrm.seq ?_
    refine Tri.seq ?_
    refine Tri.seq ?_
    refine Tri.reg (l := [0]) rfl ?_
    refine F.q rfl rfl rfl (wanted_none rfl) (r_move rfl) ?_
    refine F.nil ?_
    refine Nrm.seq ?_
    refine Tri.cond (b := t10) rfl (fun g_3 => ?_) (fun g_3 => ?_)
    · replace h := if_tt g_3 h
      refine Tri.seq ?_
      refine Tri.reg (l := [0]) rfl ?_
      refine F.q rfl rfl rfl (wanted_none rfl) (r_assign rfl) ?_
      refine F.nil ?_
      refine Nrm.seq ?_
      refine Tri.ret ?_
      refine Rtn.then ?_
      cases h
      exact Rtn.body (.tmp rfl .nil) (fun w hw => ⟨rfl, hw.ext⟩)
    · replace h := if_ff g_3 h
      refine Tri.skip ?_
      refine Nrm.seq ?_
      refine Tri.seq ?_
      refine Tri.seq ?_
      refine Tri.reg (l := [0, 1, 2]) rfl ?_
      refine F.q rfl rfl rfl (wanted_none rfl) (r_move rfl) ?_
      refine F.q rfl rfl rfl (wanted_none rfl) (r_move rfl) ?_
      refine F.q rfl rfl rfl (wanted_none rfl) (r_lss rfl rfl) ?_
      refine F.nil ?_
      refine Nrm.seq ?_
      refine Tri.cond (b := decide (a0 < a1)) rfl (fun g_4 => ?_) (fun g_4 => ?_)
      · replace h := if_tt g_4 h
        refine Tri.seq ?_
        refine Tri.reg (l := [0]) rfl ?_
        refine F.q rfl rfl rfl (wanted_none rfl) (r_assign rfl) ?_
        refine F.nil ?_
        refine Nrm.seq ?_
        refine Tri.ret ?_
        refine Rtn.then ?_
        cases h
        exact Rtn.body (.tmp rfl .nil) (fun w hw => ⟨rfl, hw.ext⟩)
      · replace h := if_ff g_4 h
        refine Tri.skip ?_
        refine Nrm.seq ?_
        refine Tri.seq ?_
        refine Tri.seq ?_
        refine Tri.reg (l := [0, 1, 2]) rfl ?_
        refine F.q rfl rfl rfl (wanted_none rfl) (r_move rfl) ?_
        refine F.q rfl rfl rfl (wanted_none rfl) (r_move rfl) ?_
        refine F.q rfl rfl rfl (wanted_none rfl) (r_gtr rfl rfl) ?_
        refine F.nil ?_
        refine Nrm.seq ?_
        refine Tri.cond (b := decide (a0 > a1)) rfl (fun g_5 => ?_) (fun g_5 => ?_)
        · replace h := if_tt g_5 h
          refine Tri.seq ?_
          refine Tri.reg (l := [0]) rfl ?_
          refine F.q rfl rfl rfl (wanted_none rfl) (r_assign rfl) ?_
          refine F.nil ?_
          refine Nrm.seq ?_
          refine Tri.ret ?_
          refine Rtn.then ?_
          cases h
          exact Rtn.body (.tmp rfl .nil) (fun w hw => ⟨rfl, hw.ext⟩)
        · replace h := if_ff g_5 h
          refine Tri.skip ?_
          refine Nrm.seq ?_
          refine Tri.seq ?_
          refine Tri.reg (l := [0]) rfl ?_
          refine F.q rfl rfl rfl (wanted_none rfl) (r_assign rfl) ?_
          refine F.nil ?_
          refine Nrm.seq ?_
          refine Tri.ret ?_
          cases h
          exact Rtn.body (.tmp rfl .nil) (fun w hw => ⟨rfl, hw.ext⟩)

end Go.Proofs

/- loop.example/g01158/impl.compareDoors -/
namespace Go.Proofs
open Go Go.Ga
set_option linter.unusedVariables false
set_option maxRecDepth 100000
set_option maxHeartbeats 4000000
def impl_compareDoors.f (k : Nat) (a0_0 : Int) (a0_1 : Int) (a0_2 : Int) (a1_0 : Int) (a1_1 : Int) (a1_2 : Int) : Option (Int) := (cmp_Compare_int.f k a0_0 a1_0).bind fun t9 => (cmp_Compare_int.f k a0_1 a1_1).bind fun t14 => (cmp_Compare_int.f k a0_2 a1_2).bind fun t19 => (cmp_Or_int.f k ([t9, t14, t19] : List (Int))).bind fun t21 => some t21

theorem impl_compareDoors.ok {k : Nat}  {a0_0 : Int} {a0_1 : Int} {a0_2 : Int} {a1_0 : Int} {a1_1 : Int} {a1_2 : Int} {r0 : Int} (h : impl_compareDoors.f k a0_0 a0_1 a0_2 a1_0 a1_1 a1_2 = some r0) (w : World) :
    Calls Try.prog 161 ([.agg ([.int .i64 a0_0, .int .i64 a0_1, .int .i64 a0_2].toArray), .agg ([.int .i64 a1_0, .int .i64 a1_1, .int .i64 a1_2].toArray)] : List Value).toArray w (fun e w' => e = .returned (.int .i64 r0) ∧ Ext w w') := by
  unfold impl_compareDoors.f at h
  refine Calls.of_tri (N := 22) Try.func161 rfl rfl rfl (Sep.nil (M := noM)) ?_
  refine Tri.seq ?_
  refine Tri.reg (l := [0, 1, 2]) rfl ?_
  refine F.m rfl rfl rfl (wanted_none rfl) (m_boxG rfl rfl) ?_
  rintro _ _ ⟨b2_1, rfl, rfl⟩
  refine F.m rfl rfl rfl (wanted_none rfl) (m_boxG rfl rfl) ?_
  rintro _ _ ⟨b3_1, rfl, rfl⟩
  refine F.q rfl rfl rfl (wanted_none rfl) (r_assign rfl) ?_
  refine F.nil ?_
  refine Nrm.seq ?_
  refine Tri.seq ?_
  obtain ⟨t9, h9, h⟩ := bind_some h
  obtain ⟨t14, h14, h⟩ := bind_some h
  obtain ⟨t19, h19, h⟩ := bind_some h
  obtain ⟨t21, h21, h⟩ := bind_some h
  refine Tri.drawA mixedT Sep.up [(0, true), (1, true), (2, true), (3, true), (4, true), (5, true), (6, true), (7, true), (8, true), (9, true), (10, true), (11, true), (12, true), (13, true), (14, true), (15, false), (16, true), (17, true)] [] (by kernel_rfl) ?_
  refine S.q rfl rfl rfl (wanted_none rfl) (r_indexAddrA Try.underlying130 ti3 rfl rfl (by decide) (by decide)) ?_
  refine S.q rfl rfl rfl (wanted_none rfl) (r_load ta3 rfl (fun w hw => cell_1 (box_cells (i := 1) rfl w hw) rfl)) ?_
  refine S.q rfl rfl rfl (wanted_none rfl) (r_indexAddrA Try.underlying130 ti3 rfl rfl (by decide) (by decide)) ?_
  refine S.q rfl rfl rfl (wanted_none rfl) (r_load ta3 rfl (fun w hw => cell_1 (box_cells (i := 0) rfl w hw) rfl)) ?_
  refine S.qc rfl rfl rfl (wanted_none rfl) (q_callF (xs := _) rfl ok167 rfl rfl (fun w hw => cmp_Compare_int.ok h9 w )) ?_
  refine S.q rfl rfl rfl (wanted_none rfl) (r_indexAddrA Try.underlying130 ti3 rfl rfl (by decide) (by decide)) ?_
  refine S.q rfl rfl rfl (wanted_none rfl) (r_load ta3 rfl (fun w hw => cell_1 (box_cells (i := 1) rfl w hw) rfl)) ?_
  refine S.q rfl rfl rfl (wanted_none rfl) (r_indexAddrA Try.underlying130 ti3 rfl rfl (by decide) (by decide)) ?_
  refine S.q rfl rfl rfl (wanted_none rfl) (r_load ta3 rfl (fun w hw => cell_1 (box_cells (i := 0) rfl w hw) rfl)) ?_
  refine S.qc rfl rfl rfl (wanted_none rfl) (q_callF (xs := _) rfl ok167 rfl rfl (fun w hw => cmp_Compare_int.ok h14 w )) ?_
  refine S.q rfl rfl rfl (wanted_none rfl) (r_indexAddrA Try.underlying130 ti3 rfl rfl (by decide) (by decide)) ?_
  refine S.q rfl rfl rfl (wanted_none rfl) (r_load ta3 rfl (fun w hw => cell_1 (box_cells (i := 1) rfl w hw) rfl)) ?_
  refine S.q rfl rfl rfl (wanted_none rfl) (r_indexAddrA Try.underlying130 ti3 rfl rfl (by decide) (by decide)) ?_
  refine S.q rfl rfl rfl (wanted_none rfl) (r_load ta3 rfl (fun w hw => cell_1 (box_cells (i := 0) rfl w hw) rfl)) ?_
  refine S.qc rfl rfl rfl (wanted_none rfl) (q_callF (xs := _) rfl ok167 rfl rfl (fun w hw => cmp_Compare_int.ok h19 w )) ?_
  refine S.m rfl rfl rfl (wanted_none rfl) (m_buildF (l := ([t9, t14, t19] : List (Int))) Try.underlying23 ti3 rfl rfl rfl rfl rfl) ?_
  rintro v20_2 _ ⟨S20_2, hl_v20_2, rfl⟩
  refine S.qc rfl rfl rfl (wanted_none rfl) (q_callF (xs := _) rfl ok166 rfl rfl (fun w hw => cmp_Or_int.ok h21 w ((rd_sl (i := 0) rfl) w hw))) ?_
  refine S.q rfl rfl rfl (wanted_none rfl) (r_assign rfl) ?_
  refine S.nil ?_
  refine F.nil ?_
  refine Nrm.seq ?_
  refine Tri.ret ?_
  cases h
  exact Rtn.body (.tmp rfl .nil) (fun w hw => ⟨rfl, hw.ext⟩)

end Go.Proofs

/- loop.example/g01158/impl.IsMaze$1 -/
namespace Go.Proofs
open Go Go.Ga
set_option linter.unusedVariables false
set_option maxRecDepth 100000
set_option maxHeartbeats 4000000
def impl_IsMaze_1.f (k : Nat) (a0 : Int) : Option (Bool) := (impl_isSet.f k a0).bind fun t4 => some (!t4)

theorem impl_IsMaze_1.ok {k : Nat}  {a0 : Int} {r0 : Bool} (h : impl_IsMaze_1.f k a0 = some r0) (w : World) :
    Calls Try.prog 162 ([.int .i64 a0] : List Value).toArray w (fun e w' => e = .returned (.bool r0) ∧ Ext w w') := by
  unfold impl_IsMaze_1.f at h
  refine Calls.of_tri (N := 6) Try.func162 rfl rfl rfl (Sep.nil (M := noM)) ?_
  refine Tri.seq ?_
  refine Tri.reg (l := [0]) rfl ?_
  refine F.q rfl rfl rfl (wanted_none rfl) (r_assign rfl) ?_
  refine F.nil ?_
  refine Nrm.seq ?_
  refine Tri.seq ?_
  obtain ⟨t4, h4, h⟩ := bind_some h
  refine Tri.reg (l := [0, 1, 2, 3]) rfl ?_
  refine F.q rfl rfl rfl (wanted_none rfl) (r_move rfl) ?_
  refine F.qc rfl rfl rfl (wanted_none rfl) (q_callF (xs := _) rfl ok122 rfl rfl (fun w hw => impl_isSet.ok h4 w )) ?_
  refine F.q rfl rfl rfl (wanted_none rfl) (r_not rfl) ?_
  refine F.q rfl rfl rfl (wanted_none rfl) (r_assign rfl) ?_
  refine F.nil ?_
  refine Nrm.seq ?_
  refine Tri.ret ?_
  cases h
  exact Rtn.body (.tmp rfl .nil) (fun w hw => ⟨rfl, hw.ext⟩)

end Go.Proofs

/- loop.example/g01158/impl.IsMaze -/
namespace Go.Proofs
open Go Go.Ga
set_option linter.unusedVariables false
set_option maxRecDepth 100000
set_option maxHeartbeats 4000000
def impl_IsMaze.l0 (k : Nat) (a0_0 : Int) (a0_1 : List (Int × Int × Int)) : Nat → Int → Option ((Unit) ⊕ (Bool))
  | 0, _ => none
  | n + 1, x26 => (if (decide (x26 < (a0_1.length : Int))) = true then (rdl a0_1 x26).bind fun t29 => ((if (decide (t29.1 < 0)) = true then some true else (if (decide (t29.1 ≥ t29.2.1)) = true then some true else (if (decide (t29.2.1 ≥ a0_0)) = true then some true else (impl_isSet.f k t29.2.2).bind fun t51 => (if (!t51) = true then some true else (if (decide (x26 > 0)) = true then (rdl a0_1 (w64 (x26 - 1))).bind fun t62 => (impl_compareDoors.f k t62.1 t62.2.1 t62.2.2 t29.1 t29.2.1 t29.2.2).bind fun t65 => some (decide (t65 ≥ 0)) else some false)))))).bind fun y68 => (if y68 = true then some (Sum.inr false) else impl_IsMaze.l0 k a0_0 a0_1 n (w64 (x26 + 1))) else some (Sum.inl ()))

def impl_IsMaze.f (k : Nat) (a0_0 : Int) (a0_1 : List (Int × Int × Int)) (a0_2 : List Int) : Option (Bool) := ((impl_within.f k a0_0 1 12).bind fun t7 => (if (!t7) = true then some true else (if (decide ((a0_1.length : Int) > 30)) = true then some true else some ((a0_2.length : Int) != a0_0)))).bind fun y22 => (if y22 = true then some false else (impl_IsMaze.l0 k a0_0 a0_1 k 0).bind fun s => Lr s some fun _ => (slices_ContainsFunc_int_int.f k a0_2 (fun z0 => impl_IsMaze_1.f k z0)).bind fun t72 => some (!t72))

theorem impl_IsMaze.ok {k : Nat}  {a0_0 : Int} {a0_1 : List (Int × Int × Int)} {a0_2 : List Int} {r0 : Bool} (h : impl_IsMaze.f k a0_0 a0_1 a0_2 = some r0) (w : World) {va0_1 : Value} {va0_2 : Value} (hr_a0_1 : Rd w va0_1 a0_1) (hr_a0_2 : Rd w va0_2 a0_2) :
    Calls Try.prog 137 ([.agg ([.int .i64 a0_0, va0_1, va0_2].toArray)] : List Value).toArray w (fun e w' => e = .returned (.bool r0) ∧ Ext w w') := by
  unfold impl_IsMaze.f at h
  have hl_va0_1 := hr_a0_1.len
  have hl_va0_2 := hr_a0_2.len
  refine Calls.of_tri (N := 74) Try.func137 rfl rfl rfl (Sep.nil (M := noM)) ?_
  refine Tri.seq ?_
  refine Tri.reg (l := [0, 1]) rfl ?_
  refine F.m rfl rfl rfl (wanted_none rfl) (m_boxG rfl rfl) ?_
  rintro _ _ ⟨b1_1, rfl, rfl⟩
  refine F.q rfl rfl rfl (wanted_none rfl) (r_assign rfl) ?_
  refine F.nil ?_
  refine Nrm.seq ?_
  refine Tri.seq ?_
  refine Tri.seq ?_
  obtain ⟨y22, hE_1, h⟩ := bind_some h
  refine Tri.cut (fun e' C' => e' = [(1, .pointer (some ⟨b1_1, 0, none⟩)), (22, .bool y22)] ∧ C' = Sep w noM [R.box b1_1 31 [.int .i64 a0_0, va0_1, va0_2]]) ?_ (fun hj_1 => ?_)
  · rintro _ _ ⟨rfl, rfl⟩
    refine Nrm.seq ?_
    refine Tri.cond (b := y22) rfl (fun g_1 => ?_) (fun g_1 => ?_)
    · replace h := if_tt g_1 h
      refine Tri.seq ?_
      refine Tri.reg (l := [0]) rfl ?_
      refine F.q rfl rfl rfl (wanted_none rfl) (r_assign rfl) ?_
      refine F.nil ?_
      refine Nrm.seq ?_
      refine Tri.ret ?_
      refine Rtn.then ?_
      cases h
      exact Rtn.body (.tmp rfl .nil) (fun w hw => ⟨rfl, hw.ext⟩)
    · replace h := if_ff g_1 h
      refine Tri.skip ?_
      refine Nrm.seq ?_
      refine Tri.seq ?_
      refine Tri.seq ?_
      refine Tri.reg (l := [0, 1, 2, 3]) rfl ?_
      refine F.q rfl rfl rfl (wanted_none rfl) (r_fieldAddr tf31_1 rfl) ?_
      refine F.q rfl rfl rfl (wanted_none rfl) (r_load ta22 rfl (fun w hw => cell_1 (box_cells (i := 0) rfl w hw) rfl)) ?_
      refine F.q rfl rfl rfl (wanted_none rfl) (r_len Try.underlying22 rfl hl_va0_1) ?_
      refine F.q rfl rfl rfl (wanted_none rfl) (r_move rfl) ?_
      refine F.nil ?_
      refine Nrm.seq ?_
      obtain ⟨s0, hE_2, h⟩ := bind_some h
      refine Tri.block ?_
      refine Tri.only [1, 24, 25, 26] rfl ?_
      refine Tri.pick [0] rfl rfl ?_
      refine Tri.rounds (fun n e' C' => ∃ (x26' : Int), impl_IsMaze.l0 k a0_0 a0_1 n x26' = some s0 ∧ e' = [(1, .pointer (some ⟨b1_1, 0, none⟩)), (24, va0_1), (25, .int .i64 (a0_1.length : Int)), (26, .int .i64 x26')] ∧ C' = Sep w noM [R.box b1_1 31 [.int .i64 a0_0, va0_1, va0_2]]) k ?_ ?_ ?_
      · exact ⟨0, hE_2, rfl, rfl⟩
      · rintro _ _ ⟨_, hE_2, _⟩
        rw [impl_IsMaze.l0.eq_1] at hE_2; cases hE_2
      · rintro n_1 _ _ ⟨x26, hE_2, rfl, rfl⟩ ih_1
        rw [impl_IsMaze.l0.eq_2] at hE_2
        refine Tri.seq ?_
        refine Tri.reg (l := [0]) rfl ?_
        refine F.q rfl rfl rfl (wanted_none rfl) (r_lss rfl rfl) ?_
        refine F.nil ?_
        refine Nrm.seq ?_
        refine Tri.seq ?_
        refine Tri.cond (b := decide (x26 < (a0_1.length : Int))) rfl (fun g_2 => ?_) (fun g_2 => ?_)
        · replace hE_2 := if_tt g_2 hE_2
          refine Tri.skip ?_
          refine Nrm.seq ?_
          refine Tri.seq ?_
          refine Tri.block ?_
          refine Tri.seq ?_
          obtain ⟨t29, h29, hE_2⟩ := bind_some hE_2
          refine Tri.reg (l := [0, 1, 2, 3, 4, 5]) rfl ?_
          refine F.q rfl rfl rfl (wanted_none rfl) (r_move rfl) ?_
          refine F.q rfl rfl rfl (wanted_none rfl) (r_indexAddrS Try.underlying22 ti130 rfl hl_va0_1 rfl (rdl_some h29).1 (rdl_some h29).2.1) ?_
          refine F.q rfl rfl rfl (wanted_none rfl) (r_loadA ta130 ti130 rfl rfl (fun w hw => (Rd.flat ((fun _ hw => hr_a0_1.sep hw) w hw) (rdl_some h29).2.2))) ?_
          refine F.m rfl rfl rfl (wanted_none rfl) (m_alloc ti130) ?_
          rintro _ _ ⟨b4_1, rfl, rfl⟩
          refine F.q rfl rfl rfl (wanted_none rfl) (r_assign rfl) ?_
          refine F.ef0 rfl rfl (wanted_none rfl) (d_storeG0 (i := 0) (cs2 := [.int .i64 t29.1, .int .i64 t29.2.1, .int .i64 t29.2.2]) ti130 rfl rfl rfl rfl rfl (Nat.le_of_ble_eq_true rfl) (lf_cons rfl (lf_cons rfl (lf_cons rfl lf_nil)))) ?_
          rintro _ _ ⟨rfl, rfl⟩
          refine F.nil ?_
          refine Nrm.seq ?_
          refine Tri.seq ?_
          obtain ⟨y68, hE_3, hE_2⟩ := bind_some hE_2
          refine Tri.cut (fun e' C' => e' = [(1, .pointer (some ⟨b1_1, 0, none⟩)), (24, va0_1), (25, .int .i64 (a0_1.length : Int)), (26, .int .i64 x26), (68, .bool y68)] ∧ C' = Sep w noM [R.box b1_1 31 [.int .i64 a0_0, va0_1, va0_2]]) ?_ (fun hj_2 => ?_)
          · rintro _ _ ⟨rfl, rfl⟩
            refine Nrm.seq ?_
            refine Tri.cond (b := y68) rfl (fun g_3 => ?_) (fun g_3 => ?_)
            · replace hE_2 := if_tt g_3 hE_2
              refine Tri.seq ?_
              refine Tri.reg (l := [0]) rfl ?_
              refine F.q rfl rfl rfl (wanted_none rfl) (r_assign rfl) ?_
              refine F.nil ?_
              refine Nrm.seq ?_
              refine Tri.ret ?_
              refine Rtn.block ?_
              refine Rtn.then ?_
              refine Rtn.then ?_
              refine Rtn.block ?_
              refine Rtn.then ?_
              cases hE_2
              replace h := Lr_inr h
              cases h
              exact Rtn.body (.tmp rfl .nil) (fun w hw => ⟨rfl, hw.ext⟩)
            · replace hE_2 := if_ff g_3 hE_2
              refine Tri.skip ?_
              refine Nrm.block ?_
              refine Nrm.seq ?_
              refine Tri.reg (l := [0, 1]) rfl ?_
              refine F.q rfl rfl rfl (wanted_none rfl) (r_add rfl rfl) ?_
              refine F.q rfl rfl rfl (wanted_none rfl) (r_move rfl) ?_
              refine F.nil ?_
              refine Nrm.round ?_
              refine Rnd.only [1, 24, 25, 26] rfl ?_
              refine Rnd.pick [0] rfl rfl ?_
              exact ih_1 _ _ ⟨w64 (x26 + 1), hE_2, rfl, rfl⟩
          · rcases Bool.eq_false_or_eq_true (decide (t29.1 < 0)) with g34 | g34
            · replace hE_3 := if_tt g34 hE_3
              refine Tri.drawA mixedT Sep.up [(0, true), (1, true), (2, true), (3, true), (4, true), (5, true), (6, true), (7, true), (8, true), (9, true), (10, true), (11, true), (12, true), (13, true), (14, true), (15, true), (16, true), (17, true), (18, true), (19, true), (20, true), (21, true), (22, true), (23, true), (24, true), (25, true), (26, true), (27, true), (28, true), (29, true), (30, true), (31, true), (32, true), (33, true), (34, true), (35, true), (36, true), (37, true)] [] (by kernel_rfl) ?_
              refine S.q rfl rfl rfl (wanted_none rfl) (r_indexAddrA Try.underlying130 ti3 rfl rfl (by decide) (by decide)) ?_
              refine S.q rfl rfl rfl (wanted_none rfl) (r_load ta3 rfl (fun w hw => cell_1 (box_cells (i := 0) rfl w hw) rfl)) ?_
              refine S.q rfl rfl rfl (wanted_none rfl) (r_lss rfl rfl) ?_
              refine S.q rfl rfl rfl (wanted_none rfl) (r_move rfl) ?_
              refine S.sk rfl rfl rfl (wf rfl rfl rfl g34) ?_
              refine S.sk rfl rfl rfl (wf rfl rfl rfl g34) ?_
              refine S.sk rfl rfl rfl (wf rfl rfl rfl g34) ?_
              refine S.sk rfl rfl rfl (wf rfl rfl rfl g34) ?_
              refine S.sk rfl rfl rfl (wf rfl rfl rfl g34) ?_
              refine S.q rfl rfl rfl (wanted_none rfl) (r_pick rfl rfl g34) ?_
              refine S.q rfl rfl rfl (wanted_none rfl) (r_move rfl) ?_
              refine S.sk rfl rfl rfl (wf rfl rfl rfl rfl) ?_
              refine S.sk rfl rfl rfl (wf rfl rfl rfl rfl) ?_
              refine S.sk rfl rfl rfl (wf rfl rfl rfl rfl) ?_
              refine S.sk rfl rfl rfl (wf rfl rfl rfl rfl) ?_
              refine S.sk rfl rfl rfl (wf rfl rfl rfl rfl) ?_
              refine S.q rfl rfl rfl (wanted_none rfl) (r_pick rfl rfl rfl) ?_
              refine S.q rfl rfl rfl (wanted_none rfl) (r_move rfl) ?_
              refine S.sk rfl rfl rfl (wf rfl rfl rfl rfl) ?_
              refine S.sk rfl rfl rfl (wf rfl rfl rfl rfl) ?_
              refine S.sk rfl rfl rfl (wf rfl rfl rfl rfl) ?_
              refine S.sk rfl rfl rfl (wf rfl rfl rfl rfl) ?_
              refine S.q rfl rfl rfl (wanted_none rfl) (r_pick rfl rfl rfl) ?_
              refine S.q rfl rfl rfl (wanted_none rfl) (r_move rfl) ?_
              refine S.sk rfl rfl rfl (wf rfl rfl rfl rfl) ?_
              refine S.sk rfl rfl rfl (wf rfl rfl rfl rfl) ?_
              refine S.sk rfl rfl rfl (wf rfl rfl rfl rfl) ?_
              refine S.sk rfl rfl rfl (wanted_undef rfl rfl rfl) ?_
              refine S.sk rfl rfl rfl (wanted_undef rfl rfl rfl) ?_
              refine S.sk rfl rfl rfl (wanted_undef rfl rfl rfl) ?_
              refine S.sk rfl rfl rfl (wanted_undef rfl rfl rfl) ?_
              refine S.sk rfl rfl rfl (wanted_undef rfl rfl rfl) ?_
              refine S.sk rfl rfl rfl (wanted_undef rfl rfl rfl) ?_
              refine S.sk rfl rfl rfl (wanted_undef rfl rfl rfl) ?_
              refine S.sk rfl rfl rfl (wanted_undef rfl rfl rfl) ?_
              refine S.sk rfl rfl rfl (wanted_undef rfl rfl rfl) ?_
              refine S.sk rfl rfl rfl (wf rfl rfl rfl rfl) ?_
              refine S.q rfl rfl rfl (wanted_none rfl) (r_pick rfl rfl rfl) ?_
              refine S.nil ?_
              refine F.nil ?_
              cases hE_3
              refine Nrm.only [1, 24, 25, 26, 68] rfl ?_
              refine Nrm.pick [1] rfl rfl ?_
              exact hj_2 _ _ ⟨rfl, rfl⟩
            · replace hE_3 := if_ff g34 hE_3
              rcases Bool.eq_false_or_eq_true (decide (t29.1 ≥ t29.2.1)) with g41 | g41
              · replace hE_3 := if_tt g41 hE_3
                refine Tri.drawA mixedT Sep.up [(0, true), (1, true), (2, true), (3, true), (4, true), (5, true), (6, true), (7, true), (8, true), (9, true), (10, true), (11, true), (12, true), (13, true), (14, true), (15, true), (16, true), (17, true), (18, true), (19, true), (20, true), (21, true), (22, true), (23, true), (24, true), (25, true), (26, true), (27, true), (28, true), (29, true), (30, true), (31, true), (32, true), (33, true), (34, true), (35, true), (36, true), (37, true)] [] (by kernel_rfl) ?_
                refine S.q rfl rfl rfl (wanted_none rfl) (r_indexAddrA Try.underlying130 ti3 rfl rfl (by decide) (by decide)) ?_
                refine S.q rfl rfl rfl (wanted_none rfl) (r_load ta3 rfl (fun w hw => cell_1 (box_cells (i := 0) rfl w hw) rfl)) ?_
                refine S.q rfl rfl rfl (wanted_none rfl) (r_lss rfl rfl) ?_
                refine S.q rfl rfl rfl (wanted_none rfl) (r_move rfl) ?_
                refine S.q rfl rfl rfl (wg rfl rfl rfl g34) (r_indexAddrA Try.underlying130 ti3 rfl rfl (by decide) (by decide)) ?_
                refine S.q rfl rfl rfl (wg rfl rfl rfl g34) (r_load ta3 rfl (fun w hw => cell_1 (box_cells (i := 0) rfl w hw) rfl)) ?_
                refine S.q rfl rfl rfl (wg rfl rfl rfl g34) (r_indexAddrA Try.underlying130 ti3 rfl rfl (by decide) (by decide)) ?_
                refine S.q rfl rfl rfl (wg rfl rfl rfl g34) (r_load ta3 rfl (fun w hw => cell_1 (box_cells (i := 0) rfl w hw) rfl)) ?_
                refine S.q rfl rfl rfl (wg rfl rfl rfl g34) (r_geq rfl rfl) ?_
                refine S.q rfl rfl rfl (wanted_none rfl) (r_pickf rfl rfl g34) ?_
                refine S.q rfl rfl rfl (wanted_none rfl) (r_move rfl) ?_
                refine S.sk rfl rfl rfl (wf rfl rfl rfl g41) ?_
                refine S.sk rfl rfl rfl (wf rfl rfl rfl g41) ?_
                refine S.sk rfl rfl rfl (wf rfl rfl rfl g41) ?_
                refine S.sk rfl rfl rfl (wf rfl rfl rfl g41) ?_
                refine S.sk rfl rfl rfl (wf rfl rfl rfl g41) ?_
                refine S.q rfl rfl rfl (wanted_none rfl) (r_pick rfl rfl g41) ?_
                refine S.q rfl rfl rfl (wanted_none rfl) (r_move rfl) ?_
                refine S.sk rfl rfl rfl (wf rfl rfl rfl rfl) ?_
                refine S.sk rfl rfl rfl (wf rfl rfl rfl rfl) ?_
                refine S.sk rfl rfl rfl (wf rfl rfl rfl rfl) ?_
                refine S.sk rfl rfl rfl (wf rfl rfl rfl rfl) ?_
                refine S.q rfl rfl rfl (wanted_none rfl) (r_pick rfl rfl rfl) ?_
                refine S.q rfl rfl rfl (wanted_none rfl) (r_move rfl) ?_
                refine S.sk rfl rfl rfl (wf rfl rfl rfl rfl) ?_
                refine S.sk rfl rfl rfl (wf rfl rfl rfl rfl) ?_
                refine S.sk rfl rfl rfl (wf rfl rfl rfl rfl) ?_
                refine S.sk rfl rfl rfl (wanted_undef rfl rfl rfl) ?_
                refine S.sk rfl rfl rfl (wanted_undef rfl rfl rfl) ?_
                refine S.sk rfl rfl rfl (wanted_undef rfl rfl rfl) ?_
                refine S.sk rfl rfl rfl (wanted_undef rfl rfl rfl) ?_
                refine S.sk rfl rfl rfl (wanted_undef rfl rfl rfl) ?_
                refine S.sk rfl rfl rfl (wanted_undef rfl rfl rfl) ?_
                refine S.sk rfl rfl rfl (wanted_undef rfl rfl rfl) ?_
                refine S.sk rfl rfl rfl (wanted_undef rfl rfl rfl) ?_
                refine S.sk rfl rfl rfl (wanted_undef rfl rfl rfl) ?_
                refine S.sk rfl rfl rfl (wf rfl rfl rfl rfl) ?_
                refine S.q rfl rfl rfl (wanted_none rfl) (r_pick rfl rfl rfl) ?_
                refine S.nil ?_
                refine F.nil ?_
                cases hE_3
                refine Nrm.only [1, 24, 25, 26, 68] rfl ?_
                refine Nrm.pick [1] rfl rfl ?_
                exact hj_2 _ _ ⟨rfl, rfl⟩
              · replace hE_3 := if_ff g41 hE_3
                rcases Bool.eq_false_or_eq_true (decide (t29.2.1 ≥ a0_0)) with g48 | g48
                · replace hE_3 := if_tt g48 hE_3
                  refine Tri.drawA mixedT Sep.up [(0, true), (1, true), (2, true), (3, true), (4, true), (5, true), (6, true), (7, true), (8, true), (9, true), (10, true), (11, true), (12, true), (13, true), (14, true), (15, true), (16, true), (17, true), (18, true), (19, true), (20, true), (21, true), (22, true), (23, true), (24, true), (25, true), (26, true), (27, true), (28, true), (29, true), (30, true), (31, true), (32, true), (33, true), (34, true), (35, true), (36, true), (37, true)] [] (by kernel_rfl) ?_
                  refine S.q rfl rfl rfl (wanted_none rfl) (r_indexAddrA Try.underlying130 ti3 rfl rfl (by decide) (by decide)) ?_
                  refine S.q rfl rfl rfl (wanted_none rfl) (r_load ta3 rfl (fun w hw => cell_1 (box_cells (i := 0) rfl w hw) rfl)) ?_
                  refine S.q rfl rfl rfl (wanted_none rfl) (r_lss rfl rfl) ?_
                  refine S.q rfl rfl rfl (wanted_none rfl) (r_move rfl) ?_
                  refine S.q rfl rfl rfl (wg rfl rfl rfl g34) (r_indexAddrA Try.underlying130 ti3 rfl rfl (by decide) (by decide)) ?_
                  refine S.q rfl rfl rfl (wg rfl rfl rfl g34) (r_load ta3 rfl (fun w hw => cell_1 (box_cells (i := 0) rfl w hw) rfl)) ?_
                  refine S.q rfl rfl rfl (wg rfl rfl rfl g34) (r_indexAddrA Try.underlying130 ti3 rfl rfl (by decide) (by decide)) ?_
                  refine S.q rfl rfl rfl (wg rfl rfl rfl g34) (r_load ta3 rfl (fun w hw => cell_1 (box_cells (i := 0) rfl w hw) rfl)) ?_
                  refine S.q rfl rfl rfl (wg rfl rfl rfl g34) (r_geq rfl rfl) ?_
                  refine S.q rfl rfl rfl (wanted_none rfl) (r_pickf rfl rfl g34) ?_
                  refine S.q rfl rfl rfl (wanted_none rfl) (r_move rfl) ?_
                  refine S.q rfl rfl rfl (wg rfl rfl rfl g41) (r_indexAddrA Try.underlying130 ti3 rfl rfl (by decide) (by decide)) ?_
                  refine S.q rfl rfl rfl (wg rfl rfl rfl g41) (r_load ta3 rfl (fun w hw => cell_1 (box_cells (i := 0) rfl w hw) rfl)) ?_
                  refine S.q rfl rfl rfl (wg rfl rfl rfl g41) (r_fieldAddr tf31_0 rfl) ?_
                  refine S.q rfl rfl rfl (wg rfl rfl rfl g41) (r_load ta3 rfl (fun w hw => cell_1 (box_cells (i := 1) rfl w hw) rfl)) ?_
                  refine S.q rfl rfl rfl (wg rfl rfl rfl g41) (r_geq rfl rfl) ?_
                  refine S.q rfl rfl rfl (wanted_none rfl) (r_pickf rfl rfl g41) ?_
                  refine S.q rfl rfl rfl (wanted_none rfl) (r_move rfl) ?_
                  refine S.sk rfl rfl rfl (wf rfl rfl rfl g48) ?_
                  refine S.sk rfl rfl rfl (wf rfl rfl rfl g48) ?_
                  refine S.sk rfl rfl rfl (wf rfl rfl rfl g48) ?_
                  refine S.sk rfl rfl rfl (wf rfl rfl rfl g48) ?_
                  refine S.q rfl rfl rfl (wanted_none rfl) (r_pick rfl rfl g48) ?_
                  refine S.q rfl rfl rfl (wanted_none rfl) (r_move rfl) ?_
                  refine S.sk rfl rfl rfl (wf rfl rfl rfl rfl) ?_
                  refine S.sk rfl rfl rfl (wf rfl rfl rfl rfl) ?_
                  refine S.sk rfl rfl rfl (wf rfl rfl rfl rfl) ?_
                  refine S.sk rfl rfl rfl (wanted_undef rfl rfl rfl) ?_
                  refine S.sk rfl rfl rfl (wanted_undef rfl rfl rfl) ?_
                  refine S.sk rfl rfl rfl (wanted_undef rfl rfl rfl) ?_
                  refine S.sk rfl rfl rfl (wanted_undef rfl rfl rfl) ?_
                  refine S.sk rfl rfl rfl (wanted_undef rfl rfl rfl) ?_
                  refine S.sk rfl rfl rfl (wanted_undef rfl rfl rfl) ?_
                  refine S.sk rfl rfl rfl (wanted_undef rfl rfl rfl) ?_
                  refine S.sk rfl rfl rfl (wanted_undef rfl rfl rfl) ?_
                  refine S.sk rfl rfl rfl (wanted_undef rfl rfl rfl) ?_
                  refine S.sk rfl rfl rfl (wf rfl rfl rfl rfl) ?_
                  refine S.q rfl rfl rfl (wanted_none rfl) (r_pick rfl rfl rfl) ?_
                  refine S.nil ?_
                  refine F.nil ?_
                  cases hE_3
                  refine Nrm.only [1, 24, 25, 26, 68] rfl ?_
                  refine Nrm.pick [1] rfl rfl ?_
                  exact hj_2 _ _ ⟨rfl, rfl⟩
                · replace hE_3 := if_ff g48 hE_3
                  obtain ⟨t51, h51, hE_3⟩ := bind_some hE_3
                  rcases Bool.eq_false_or_eq_true (!t51) with g54 | g54
                  · replace hE_3 := if_tt g54 hE_3
                    refine Tri.drawA mixedT Sep.up [(0, true), (1, true), (2, true), (3, true), (4, true), (5, true), (6, true), (7, true), (8, true), (9, true), (10, true), (11, true), (12, true), (13, true), (14, true), (15, true), (16, true), (17, true), (18, true), (19, true), (20, true), (21, true), (22, true), (23, true), (24, true), (25, true), (26, true), (27, true), (28, true), (29, true), (30, true), (31, true), (32, true), (33, true), (34, true), (35, true), (36, true), (37, true)] [] (by kernel_rfl) ?_
                    refine S.q rfl rfl rfl (wanted_none rfl) (r_indexAddrA Try.underlying130 ti3 rfl rfl (by decide) (by decide)) ?_
                    refine S.q rfl rfl rfl (wanted_none rfl) (r_load ta3 rfl (fun w hw => cell_1 (box_cells (i := 0) rfl w hw) rfl)) ?_
                    refine S.q rfl rfl rfl (wanted_none rfl) (r_lss rfl rfl) ?_
                    refine S.q rfl rfl rfl (wanted_none rfl) (r_move rfl) ?_
                    refine S.q rfl rfl rfl (wg rfl rfl rfl g34) (r_indexAddrA Try.underlying130 ti3 rfl rfl (by decide) (by decide)) ?_
                    refine S.q rfl rfl rfl (wg rfl rfl rfl g34) (r_load ta3 rfl (fun w hw => cell_1 (box_cells (i := 0) rfl w hw) rfl)) ?_
                    refine S.q rfl rfl rfl (wg rfl rfl rfl g34) (r_indexAddrA Try.underlying130 ti3 rfl rfl (by decide) (by decide)) ?_
                    refine S.q rfl rfl rfl (wg rfl rfl rfl g34) (r_load ta3 rfl (fun w hw => cell_1 (box_cells (i := 0) rfl w hw) rfl)) ?_
                    refine S.q rfl rfl rfl (wg rfl rfl rfl g34) (r_geq rfl rfl) ?_
                    refine S.q rfl rfl rfl (wanted_none rfl) (r_pickf rfl rfl g34) ?_
                    refine S.q rfl rfl rfl (wanted_none rfl) (r_move rfl) ?_
                    refine S.q rfl rfl rfl (wg rfl rfl rfl g41) (r_indexAddrA Try.underlying130 ti3 rfl rfl (by decide) (by decide)) ?_
                    refine S.q rfl rfl rfl (wg rfl rfl rfl g41) (r_load ta3 rfl (fun w hw => cell_1 (box_cells (i := 0) rfl w hw) rfl)) ?_
                    refine S.q rfl rfl rfl (wg rfl rfl rfl g41) (r_fieldAddr tf31_0 rfl) ?_
                    refine S.q rfl rfl rfl (wg rfl rfl rfl g41) (r_load ta3 rfl (fun w hw => cell_1 (box_cells (i := 1) rfl w hw) rfl)) ?_
                    refine S.q rfl rfl rfl (wg rfl rfl rfl g41) (r_geq rfl rfl) ?_
                    refine S.q rfl rfl rfl (wanted_none rfl) (r_pickf rfl rfl g41) ?_
                    refine S.q rfl rfl rfl (wanted_none rfl) (r_move rfl) ?_
                    refine S.q rfl rfl rfl (wg rfl rfl rfl g48) (r_indexAddrA Try.underlying130 ti3 rfl rfl (by decide) (by decide)) ?_
                    refine S.q rfl rfl rfl (wg rfl rfl rfl g48) (r_load ta3 rfl (fun w hw => cell_1 (box_cells (i := 0) rfl w hw) rfl)) ?_
                    refine S.qc rfl rfl rfl (wg rfl rfl rfl g48) (q_callF (xs := _) rfl ok122 rfl rfl (fun w hw => impl_isSet.ok h51 w )) ?_
                    refine S.q rfl rfl rfl (wg rfl rfl rfl g48) (r_not rfl) ?_
                    refine S.q rfl rfl rfl (wanted_none rfl) (r_pickf rfl rfl g48) ?_
                    refine S.q rfl rfl rfl (wanted_none rfl) (r_move rfl) ?_
                    refine S.sk rfl rfl rfl (wf rfl rfl rfl g54) ?_
                    refine S.sk rfl rfl rfl (wf rfl rfl rfl g54) ?_
                    refine S.sk rfl rfl rfl (wf rfl rfl rfl g54) ?_
                    refine S.sk rfl rfl rfl (wanted_undef rfl rfl rfl) ?_
                    refine S.sk rfl rfl rfl (wanted_undef rfl rfl rfl) ?_
                    refine S.sk rfl rfl rfl (wanted_undef rfl rfl rfl) ?_
                    refine S.sk rfl rfl rfl (wanted_undef rfl rfl rfl) ?_
                    refine S.sk rfl rfl rfl (wanted_undef rfl rfl rfl) ?_
                    refine S.sk rfl rfl rfl (wanted_undef rfl rfl rfl) ?_
                    refine S.sk rfl rfl rfl (wanted_undef rfl rfl rfl) ?_
                    refine S.sk rfl rfl rfl (wanted_undef rfl rfl rfl) ?_
                    refine S.sk rfl rfl rfl (wanted_undef rfl rfl rfl) ?_
                    refine S.sk rfl rfl rfl (wf rfl rfl rfl g54) ?_
                    refine S.q rfl rfl rfl (wanted_none rfl) (r_pick rfl rfl g54) ?_
                    refine S.nil ?_
                    refine F.nil ?_
                    cases hE_3
                    refine Nrm.only [1, 24, 25, 26, 68] rfl ?_
                    refine Nrm.pick [1] rfl rfl ?_
                    exact hj_2 _ _ ⟨rfl, rfl⟩
                  · replace hE_3 := if_ff g54 hE_3
                    rcases Bool.eq_false_or_eq_true (decide (x26 > 0)) with g57 | g57
                    · replace hE_3 := if_tt g57 hE_3
                      obtain ⟨t62, h62, hE_3⟩ := bind_some hE_3
                      obtain ⟨t65, h65, hE_3⟩ := bind_some hE_3
                      refine Tri.drawA mixedT Sep.up [(0, true), (1, true), (2, true), (3, true), (4, true), (5, true), (6, true), (7, true), (8, true), (9, true), (10, true), (11, true), (12, true), (13, true), (14, true), (15, true), (16, true), (17, true), (18, true), (19, true), (20, true), (21, true), (22, true), (23, true), (24, true), (25, true), (26, true), (27, true), (28, true), (29, true), (30, true), (31, true), (32, true), (33, true), (34, true), (35, true), (36, true), (37, true)] [] (by kernel_rfl) ?_
                      refine S.q rfl rfl rfl (wanted_none rfl) (r_indexAddrA Try.underlying130 ti3 rfl rfl (by decide) (by decide)) ?_
                      refine S.q rfl rfl rfl (wanted_none rfl) (r_load ta3 rfl (fun w hw => cell_1 (box_cells (i := 0) rfl w hw) rfl)) ?_
                      refine S.q rfl rfl rfl (wanted_none rfl) (r_lss rfl rfl) ?_
                      refine S.q rfl rfl rfl (wanted_none rfl) (r_move rfl) ?_
                      refine S.q rfl rfl rfl (wg rfl rfl rfl g34) (r_indexAddrA Try.underlying130 ti3 rfl rfl (by decide) (by decide)) ?_
                      refine S.q rfl rfl rfl (wg rfl rfl rfl g34) (r_load ta3 rfl (fun w hw => cell_1 (box_cells (i := 0) rfl w hw) rfl)) ?_
                      refine S.q rfl rfl rfl (wg rfl rfl rfl g34) (r_indexAddrA Try.underlying130 ti3 rfl rfl (by decide) (by decide)) ?_
                      refine S.q rfl rfl rfl (wg rfl rfl rfl g34) (r_load ta3 rfl (fun w hw => cell_1 (box_cells (i := 0) rfl w hw) rfl)) ?_
                      refine S.q rfl rfl rfl (wg rfl rfl rfl g34) (r_geq rfl rfl) ?_
                      refine S.q rfl rfl rfl (wanted_none rfl) (r_pickf rfl rfl g34) ?_
                      refine S.q rfl rfl rfl (wanted_none rfl) (r_move rfl) ?_
                      refine S.q rfl rfl rfl (wg rfl rfl rfl g41) (r_indexAddrA Try.underlying130 ti3 rfl rfl (by decide) (by decide)) ?_
                      refine S.q rfl rfl rfl (wg rfl rfl rfl g41) (r_load ta3 rfl (fun w hw => cell_1 (box_cells (i := 0) rfl w hw) rfl)) ?_
                      refine S.q rfl rfl rfl (wg rfl rfl rfl g41) (r_fieldAddr tf31_0 rfl) ?_
                      refine S.q rfl rfl rfl (wg rfl rfl rfl g41) (r_load ta3 rfl (fun w hw => cell_1 (box_cells (i := 1) rfl w hw) rfl)) ?_
                      refine S.q rfl rfl rfl (wg rfl rfl rfl g41) (r_geq rfl rfl) ?_
                      refine S.q rfl rfl rfl (wanted_none rfl) (r_pickf rfl rfl g41) ?_
                      refine S.q rfl rfl rfl (wanted_none rfl) (r_move rfl) ?_
                      refine S.q rfl rfl rfl (wg rfl rfl rfl g48) (r_indexAddrA Try.underlying130 ti3 rfl rfl (by decide) (by decide)) ?_
                      refine S.q rfl rfl rfl (wg rfl rfl rfl g48) (r_load ta3 rfl (fun w hw => cell_1 (box_cells (i := 0) rfl w hw) rfl)) ?_
                      refine S.qc rfl rfl rfl (wg rfl rfl rfl g48) (q_callF (xs := _) rfl ok122 rfl rfl (fun w hw => impl_isSet.ok h51 w )) ?_
                      refine S.q rfl rfl rfl (wg rfl rfl rfl g48) (r_not rfl) ?_
                      refine S.q rfl rfl rfl (wanted_none rfl) (r_pickf rfl rfl g48) ?_
                      refine S.q rfl rfl rfl (wanted_none rfl) (r_move rfl) ?_
                      refine S.q rfl rfl rfl (wg rfl rfl rfl g54) (r_move rfl) ?_
                      refine S.q rfl rfl rfl (wg rfl rfl rfl g54) (r_gtr rfl rfl) ?_
                      refine S.q rfl rfl rfl (wg rfl rfl rfl g54) (r_move rfl) ?_
                      refine S.q rfl rfl rfl (wg rfl rfl rfl g57) (r_fieldAddr tf31_1 rfl) ?_
                      refine S.q rfl rfl rfl (wg rfl rfl rfl g57) (r_load ta22 rfl (fun w hw => cell_1 (box_cells (i := 1) rfl w hw) rfl)) ?_
                      refine S.q rfl rfl rfl (wg rfl rfl rfl g57) (r_move rfl) ?_
                      refine S.q rfl rfl rfl (wg rfl rfl rfl g57) (r_sub rfl rfl) ?_
                      refine S.q rfl rfl rfl (wg rfl rfl rfl g57) (r_indexAddrS Try.underlying22 ti130 rfl hl_va0_1 rfl (rdl_some h62).1 (rdl_some h62).2.1) ?_
                      refine S.q rfl rfl rfl (wg rfl rfl rfl g57) (r_loadA ta130 ti130 rfl rfl (fun w hw => (Rd.flat ((fun _ hw => hr_a0_1.sep hw) w hw) (rdl_some h62).2.2))) ?_
                      refine S.q rfl rfl rfl (wg rfl rfl rfl g57) (r_loadA ta130 ti130 rfl rfl (fun w hw => (box_cells (i := 0) rfl w hw))) ?_
                      refine S.qc rfl rfl rfl (wg rfl rfl rfl g57) (q_callF (xs := _) rfl ok161 rfl rfl (fun w hw => impl_compareDoors.ok h65 w )) ?_
                      refine S.q rfl rfl rfl (wg rfl rfl rfl g57) (r_geq rfl rfl) ?_
                      refine S.q rfl rfl rfl (wg rfl rfl rfl g54) (r_pick rfl rfl g57) ?_
                      refine S.q rfl rfl rfl (wanted_none rfl) (r_pickf rfl rfl g54) ?_
                      refine S.nil ?_
                      refine F.nil ?_
                      cases hE_3
                      refine Nrm.only [1, 24, 25, 26, 68] rfl ?_
                      refine Nrm.pick [1] rfl rfl ?_
                      exact hj_2 _ _ ⟨rfl, rfl⟩
                    · replace hE_3 := if_ff g57 hE_3
                      refine Tri.drawA mixedT Sep.up [(0, true), (1, true), (2, true), (3, true), (4, true), (5, true), (6, true), (7, true), (8, true), (9, true), (10, true), (11, true), (12, true), (13, true), (14, true), (15, true), (16, true), (17, true), (18, true), (19, true), (20, true), (21, true), (22, true), (23, true), (24, true), (25, true), (26, true), (27, true), (28, true), (29, true), (30, true), (31, true), (32, true), (33, true), (34, true), (35, true), (36, true), (37, true)] [] (by kernel_rfl) ?_
                      refine S.q rfl rfl rfl (wanted_none rfl) (r_indexAddrA Try.underlying130 ti3 rfl rfl (by decide) (by decide)) ?_
                      refine S.q rfl rfl rfl (wanted_none rfl) (r_load ta3 rfl (fun w hw => cell_1 (box_cells (i := 0) rfl w hw) rfl)) ?_
                      refine S.q rfl rfl rfl (wanted_none rfl) (r_lss rfl rfl) ?_
                      refine S.q rfl rfl rfl (wanted_none rfl) (r_move rfl) ?_
                      refine S.q rfl rfl rfl (wg rfl rfl rfl g34) (r_indexAddrA Try.underlying130 ti3 rfl rfl (by decide) (by decide)) ?_
                      refine S.q rfl rfl rfl (wg rfl rfl rfl g34) (r_load ta3 rfl (fun w hw => cell_1 (box_cells (i := 0) rfl w hw) rfl)) ?_
                      refine S.q rfl rfl rfl (wg rfl rfl rfl g34) (r_indexAddrA Try.underlying130 ti3 rfl rfl (by decide) (by decide)) ?_
                      refine S.q rfl rfl rfl (wg rfl rfl rfl g34) (r_load ta3 rfl (fun w hw => cell_1 (box_cells (i := 0) rfl w hw) rfl)) ?_
                      refine S.q rfl rfl rfl (wg rfl rfl rfl g34) (r_geq rfl rfl) ?_
                      refine S.q rfl rfl rfl (wanted_none rfl) (r_pickf rfl rfl g34) ?_
                      refine S.q rfl rfl rfl (wanted_none rfl) (r_move rfl) ?_
                      refine S.q rfl rfl rfl (wg rfl rfl rfl g41) (r_indexAddrA Try.underlying130 ti3 rfl rfl (by decide) (by decide)) ?_
                      refine S.q rfl rfl rfl (wg rfl rfl rfl g41) (r_load ta3 rfl (fun w hw => cell_1 (box_cells (i := 0) rfl w hw) rfl)) ?_
                      refine S.q rfl rfl rfl (wg rfl rfl rfl g41) (r_fieldAddr tf31_0 rfl) ?_
                      refine S.q rfl rfl rfl (wg rfl rfl rfl g41) (r_load ta3 rfl (fun w hw => cell_1 (box_cells (i := 1) rfl w hw) rfl)) ?_
                      refine S.q rfl rfl rfl (wg rfl rfl rfl g41) (r_geq rfl rfl) ?_
                      refine S.q rfl rfl rfl (wanted_none rfl) (r_pickf rfl rfl g41) ?_
                      refine S.q rfl rfl rfl (wanted_none rfl) (r_move rfl) ?_
                      refine S.q rfl rfl rfl (wg rfl rfl rfl g48) (r_indexAddrA Try.underlying130 ti3 rfl rfl (by decide) (by decide)) ?_
                      refine S.q rfl rfl rfl (wg rfl rfl rfl g48) (r_load ta3 rfl (fun w hw => cell_1 (box_cells (i := 0) rfl w hw) rfl)) ?_
                      refine S.qc rfl rfl rfl (wg rfl rfl rfl g48) (q_callF (xs := _) rfl ok122 rfl rfl (fun w hw => impl_isSet.ok h51 w )) ?_
                      refine S.q rfl rfl rfl (wg rfl rfl rfl g48) (r_not rfl) ?_
                      refine S.q rfl rfl rfl (wanted_none rfl) (r_pickf rfl rfl g48) ?_
                      refine S.q rfl rfl rfl (wanted_none rfl) (r_move rfl) ?_
                      refine S.q rfl rfl rfl (wg rfl rfl rfl g54) (r_move rfl) ?_
                      refine S.q rfl rfl rfl (wg rfl rfl rfl g54) (r_gtr rfl rfl) ?_
                      refine S.q rfl rfl rfl (wg rfl rfl rfl g54) (r_move rfl) ?_
                      refine S.sk rfl rfl rfl (wf rfl rfl rfl g57) ?_
                      refine S.sk rfl rfl rfl (wf rfl rfl rfl g57) ?_
                      refine S.sk rfl rfl rfl (wf rfl rfl rfl g57) ?_
                      refine S.sk rfl rfl rfl (wf rfl rfl rfl g57) ?_
                      refine S.sk rfl rfl rfl (wf rfl rfl rfl g57) ?_
                      refine S.sk rfl rfl rfl (wf rfl rfl rfl g57) ?_
                      refine S.sk rfl rfl rfl (wf rfl rfl rfl g57) ?_
                      refine S.sk rfl rfl rfl (wf rfl rfl rfl g57) ?_
                      refine S.sk rfl rfl rfl (wf rfl rfl rfl g57) ?_
                      refine S.q rfl rfl rfl (wg rfl rfl rfl g54) (r_pickf rfl rfl g57) ?_
                      refine S.q rfl rfl rfl (wanted_none rfl) (r_pickf rfl rfl g54) ?_
                      refine S.nil ?_
                      refine F.nil ?_
                      cases hE_3
                      refine Nrm.only [1, 24, 25, 26, 68] rfl ?_
                      refine Nrm.pick [1] rfl rfl ?_
                      exact hj_2 _ _ ⟨rfl, rfl⟩
        · replace hE_2 := if_ff g_2 hE_2
          refine Tri.exit ?_
          refine Exi.then ?_
          refine Exi.then ?_
          refine Exi.same ?_
          cases hE_2
          replace h := Lr_inl h
          refine Nrm.seq ?_
          refine Tri.seq ?_
          obtain ⟨t72, h72, h⟩ := bind_some h
          refine Tri.reg (l := [0, 1, 2, 3, 4]) rfl ?_
          refine F.q rfl rfl rfl (wanted_none rfl) (r_fieldAddr tf31_2 rfl) ?_
          refine F.q rfl rfl rfl (wanted_none rfl) (r_load ta23 rfl (fun w hw => cell_1 (box_cells (i := 0) rfl w hw) rfl)) ?_
          refine F.qc rfl rfl rfl (wanted_none rfl) (q_callF (xs := _) rfl ok145 rfl rfl (fun w hw => slices_ContainsFunc_int_int.ok h72 w ((fun _ hw => hr_a0_2.sep hw) w hw) ok162 (fun w2 he2 z0 y2 hy2 => impl_IsMaze_1.ok hy2 w2 ))) ?_
          refine F.q rfl rfl rfl (wanted_none rfl) (r_not rfl) ?_
          refine F.q rfl rfl rfl (wanted_none rfl) (r_assign rfl) ?_
          refine F.nil ?_
          refine Nrm.seq ?_
          refine Tri.ret ?_
          cases h
          exact Rtn.body (.tmp rfl .nil) (fun w hw => ⟨rfl, hw.ext⟩)
  · obtain ⟨t7, h7, hE_1⟩ := bind_some hE_1
    rcases Bool.eq_false_or_eq_true (!t7) with g9 | g9
    · replace hE_1 := if_tt g9 hE_1
      refine Tri.reg (l := [0, 1, 2, 3, 4, 5, 6, 7, 8, 9, 10, 11, 12, 13, 14, 15, 16, 17]) rfl ?_
      refine F.q rfl rfl rfl (wanted_none rfl) (r_fieldAddr tf31_0 rfl) ?_
      refine F.q rfl rfl rfl (wanted_none rfl) (r_load ta3 rfl (fun w hw => cell_1 (box_cells (i := 0) rfl w hw) rfl)) ?_
      refine F.qc rfl rfl rfl (wanted_none rfl) (q_callF (xs := _) rfl ok138 rfl rfl (fun w hw => impl_within.ok h7 w )) ?_
      refine F.q rfl rfl rfl (wanted_none rfl) (r_not rfl) ?_
      refine F.q rfl rfl rfl (wanted_none rfl) (r_move rfl) ?_
      refine F.sk rfl rfl rfl (wf rfl rfl rfl g9) ?_
      refine F.sk rfl rfl rfl (wf rfl rfl rfl g9) ?_
      refine F.sk rfl rfl rfl (wf rfl rfl rfl g9) ?_
      refine F.sk rfl rfl rfl (wf rfl rfl rfl g9) ?_
      refine F.q rfl rfl rfl (wanted_none rfl) (r_pick rfl rfl g9) ?_
      refine F.q rfl rfl rfl (wanted_none rfl) (r_move rfl) ?_
      refine F.sk rfl rfl rfl (wf rfl rfl rfl rfl) ?_
      refine F.sk rfl rfl rfl (wf rfl rfl rfl rfl) ?_
      refine F.sk rfl rfl rfl (wf rfl rfl rfl rfl) ?_
      refine F.sk rfl rfl rfl (wf rfl rfl rfl rfl) ?_
      refine F.sk rfl rfl rfl (wf rfl rfl rfl rfl) ?_
      refine F.sk rfl rfl rfl (wf rfl rfl rfl rfl) ?_
      refine F.q rfl rfl rfl (wanted_none rfl) (r_pick rfl rfl rfl) ?_
      refine F.nil ?_
      cases hE_1
      refine Nrm.only [1, 22] rfl ?_
      refine Nrm.pick [0] rfl rfl ?_
      exact hj_1 _ _ ⟨rfl, rfl⟩
    · replace hE_1 := if_ff g9 hE_1
      rcases Bool.eq_false_or_eq_true (decide ((a0_1.length : Int) > 30)) with g15 | g15
      · replace hE_1 := if_tt g15 hE_1
        refine Tri.reg (l := [0, 1, 2, 3, 4, 5, 6, 7, 8, 9, 10, 11, 12, 13, 14, 15, 16, 17]) rfl ?_
        refine F.q rfl rfl rfl (wanted_none rfl) (r_fieldAddr tf31_0 rfl) ?_
        refine F.q rfl rfl rfl (wanted_none rfl) (r_load ta3 rfl (fun w hw => cell_1 (box_cells (i := 0) rfl w hw) rfl)) ?_
        refine F.qc rfl rfl rfl (wanted_none rfl) (q_callF (xs := _) rfl ok138 rfl rfl (fun w hw => impl_within.ok h7 w )) ?_
        refine F.q rfl rfl rfl (wanted_none rfl) (r_not rfl) ?_
        refine F.q rfl rfl rfl (wanted_none rfl) (r_move rfl) ?_
        refine F.q rfl rfl rfl (wg rfl rfl rfl g9) (r_fieldAddr tf31_1 rfl) ?_
        refine F.q rfl rfl rfl (wg rfl rfl rfl g9) (r_load ta22 rfl (fun w hw => cell_1 (box_cells (i := 0) rfl w hw) rfl)) ?_
        refine F.q rfl rfl rfl (wg rfl rfl rfl g9) (r_len Try.underlying22 rfl hl_va0_1) ?_
        refine F.q rfl rfl rfl (wg rfl rfl rfl g9) (r_gtr rfl rfl) ?_
        refine F.q rfl rfl rfl (wanted_none rfl) (r_pickf rfl rfl g9) ?_
        refine F.q rfl rfl rfl (wanted_none rfl) (r_move rfl) ?_
        refine F.sk rfl rfl rfl (wf rfl rfl rfl g15) ?_
        refine F.sk rfl rfl rfl (wf rfl rfl rfl g15) ?_
        refine F.sk rfl rfl rfl (wf rfl rfl rfl g15) ?_
        refine F.sk rfl rfl rfl (wf rfl rfl rfl g15) ?_
        refine F.sk rfl rfl rfl (wf rfl rfl rfl g15) ?_
        refine F.sk rfl rfl rfl (wf rfl rfl rfl g15) ?_
        refine F.q rfl rfl rfl (wanted_none rfl) (r_pick rfl rfl g15) ?_
        refine F.nil ?_
        cases hE_1
        refine Nrm.only [1, 22] rfl ?_
        refine Nrm.pick [0] rfl rfl ?_
        exact hj_1 _ _ ⟨rfl, rfl⟩
      · replace hE_1 := if_ff g15 hE_1
        refine Tri.reg (l := [0, 1, 2, 3, 4, 5, 6, 7, 8, 9, 10, 11, 12, 13, 14, 15, 16, 17]) rfl ?_
        refine F.q rfl rfl rfl (wanted_none rfl) (r_fieldAddr tf31_0 rfl) ?_
        refine F.q rfl rfl rfl (wanted_none rfl) (r_load ta3 rfl (fun w hw => cell_1 (box_cells (i := 0) rfl w hw) rfl)) ?_
        refine F.qc rfl rfl rfl (wanted_none rfl) (q_callF (xs := _) rfl ok138 rfl rfl (fun w hw => impl_within.ok h7 w )) ?_
        refine F.q rfl rfl rfl (wanted_none rfl) (r_not rfl) ?_
        refine F.q rfl rfl rfl (wanted_none rfl) (r_move rfl) ?_
        refine F.q rfl rfl rfl (wg rfl rfl rfl g9) (r_fieldAddr tf31_1 rfl) ?_
        refine F.q rfl rfl rfl (wg rfl rfl rfl g9) (r_load ta22 rfl (fun w hw => cell_1 (box_cells (i := 0) rfl w hw) rfl)) ?_
        refine F.q rfl rfl rfl (wg rfl rfl rfl g9) (r_len Try.underlying22 rfl hl_va0_1) ?_
        refine F.q rfl rfl rfl (wg rfl rfl rfl g9) (r_gtr rfl rfl) ?_
        refine F.q rfl rfl rfl (wanted_none rfl) (r_pickf rfl rfl g9) ?_
        refine F.q rfl rfl rfl (wanted_none rfl) (r_move rfl) ?_
        refine F.q rfl rfl rfl (wg rfl rfl rfl g15) (r_fieldAddr tf31_2 rfl) ?_
        refine F.q rfl rfl rfl (wg rfl rfl rfl g15) (r_load ta23 rfl (fun w hw => cell_1 (box_cells (i := 0) rfl w hw) rfl)) ?_
        refine F.q rfl rfl rfl (wg rfl rfl rfl g15) (r_len Try.underlying23 rfl hl_va0_2) ?_
        refine F.q rfl rfl rfl (wg rfl rfl rfl g15) (r_fieldAddr tf31_0 rfl) ?_
        refine F.q rfl rfl rfl (wg rfl rfl rfl g15) (r_load ta3 rfl (fun w hw => cell_1 (box_cells (i := 0) rfl w hw) rfl)) ?_
        refine F.q rfl rfl rfl (wg rfl rfl rfl g15) (r_neq rfl rfl) ?_
        refine F.q rfl rfl rfl (wanted_none rfl) (r_pickf rfl rfl g15) ?_
        refine F.nil ?_
        cases hE_1
        refine Nrm.only [1, 22] rfl ?_
        refine Nrm.pick [0] rfl rfl ?_
        exact hj_1 _ _ ⟨rfl, rfl⟩

end Go.Proofs

/- loop.example/g01158/impl.asked -/
namespace Go.Proofs
open Go Go.Ga
set_option linter.unusedVariables false
set_option maxRecDepth 100000
set_option maxHeartbeats 4000000
def impl_asked.f (k : Nat) (a0_0 : Int) (a0_1 : List (Int × Int × Int)) (a0_2 : List Int) (a1 : Int) : Option (Bool) := ((impl_IsMaze.f k a0_0 a0_1 a0_2).bind fun t6 => (if t6 = true then (impl_isSet.f k a1).bind fun t9 => some t9 else some false)).bind fun y4 => some y4

theorem impl_asked.ok {k : Nat}  {a0_0 : Int} {a0_1 : List (Int × Int × Int)} {a0_2 : List Int} {a1 : Int} {r0 : Bool} (h : impl_asked.f k a0_0 a0_1 a0_2 a1 = some r0) (w : World) {va0_1 : Value} {va0_2 : Value} (hr_a0_1 : Rd w va0_1 a0_1) (hr_a0_2 : Rd w va0_2 a0_2) :
    Calls Try.prog 128 ([.agg ([.int .i64 a0_0, va0_1, va0_2].toArray), .int .i64 a1] : List Value).toArray w (fun e w' => e = .returned (.bool r0) ∧ Ext w w') := by
  unfold impl_asked.f at h
  have hl_va0_1 := hr_a0_1.len
  have hl_va0_2 := hr_a0_2.len
  refine Calls.of_tri (N := 11) Try.func128 rfl rfl rfl (Sep.nil (M := noM)) ?_
  refine Tri.seq ?_
  refine Tri.reg (l := [0, 1]) rfl ?_
  refine F.m rfl rfl rfl (wanted_none rfl) (m_boxG rfl rfl) ?_
  rintro _ _ ⟨b2_1, rfl, rfl⟩
  refine F.q rfl rfl rfl (wanted_none rfl) (r_assign rfl) ?_
  refine F.nil ?_
  refine Nrm.seq ?_
  refine Tri.seq ?_
  obtain ⟨y4, hE_1, h⟩ := bind_some h
  refine Tri.cut (fun e' C' => e' = [(4, .bool y4)] ∧ C' = Sep w noM []) ?_ (fun hj_1 => ?_)
  · rintro _ _ ⟨rfl, rfl⟩
    refine Nrm.seq ?_
    refine Tri.ret ?_
    cases h
    exact Rtn.body (.tmp rfl .nil) (fun w hw => ⟨rfl, hw.ext⟩)
  · obtain ⟨t6, h6, hE_1⟩ := bind_some hE_1
    rcases Bool.eq_false_or_eq_true (t6) with g7 | g7
    · replace hE_1 := if_tt g7 hE_1
      obtain ⟨t9, h9, hE_1⟩ := bind_some hE_1
      refine Tri.reg (l := [0, 1, 2, 3, 4, 5, 6]) rfl ?_
      refine F.q rfl rfl rfl (wanted_none rfl) (r_loadA ta31 ti31 rfl rfl (fun w hw => (box_cells (i := 0) rfl w hw))) ?_
      refine F.qc rfl rfl rfl (wanted_none rfl) (q_callF (xs := _) rfl ok137 rfl rfl (fun w hw => impl_IsMaze.ok h6 w ((fun _ hw => hr_a0_1.sep hw) w hw) ((fun _ hw => hr_a0_2.sep hw) w hw))) ?_
      refine F.q rfl rfl rfl (wanted_none rfl) (r_move rfl) ?_
      refine F.q rfl rfl rfl (wg rfl rfl rfl g7) (r_move rfl) ?_
      refine F.qc rfl rfl rfl (wg rfl rfl rfl g7) (q_callF (xs := _) rfl ok122 rfl rfl (fun w hw => impl_isSet.ok h9 w )) ?_
      refine F.q rfl rfl rfl (wanted_none rfl) (r_pick rfl rfl g7) ?_
      refine F.q rfl rfl rfl (wanted_none rfl) (r_assign rfl) ?_
      refine F.nil ?_
      cases hE_1
      refine Nrm.only [4] rfl ?_
      refine Nrm.pick [] rfl rfl ?_
      exact hj_1 _ _ ⟨rfl, rfl⟩
    · replace hE_1 := if_ff g7 hE_1
      refine Tri.reg (l := [0, 1, 2, 3, 4, 5, 6]) rfl ?_
      refine F.q rfl rfl rfl (wanted_none rfl) (r_loadA ta31 ti31 rfl rfl (fun w hw => (box_cells (i := 0) rfl w hw))) ?_
      refine F.qc rfl rfl rfl (wanted_none rfl) (q_callF (xs := _) rfl ok137 rfl rfl (fun w hw => impl_IsMaze.ok h6 w ((fun _ hw => hr_a0_1.sep hw) w hw) ((fun _ hw => hr_a0_2.sep hw) w hw))) ?_
      refine F.q rfl rfl rfl (wanted_none rfl) (r_move rfl) ?_
      refine F.sk rfl rfl rfl (wf rfl rfl rfl g7) ?_
      refine F.sk rfl rfl rfl (wf rfl rfl rfl g7) ?_
      refine F.q rfl rfl rfl (wanted_none rfl) (r_pickf rfl rfl g7) ?_
      refine F.q rfl rfl rfl (wanted_none rfl) (r_assign rfl) ?_
      refine F.nil ?_
      cases hE_1
      refine Nrm.only [4] rfl ?_
      refine Nrm.pick [] rfl rfl ?_
      exact hj_1 _ _ ⟨rfl, rfl⟩

end Go.Proofs
