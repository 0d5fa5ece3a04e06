/- A part of the proof of FnTrapSteps: what the functions of the program compute, walked on the model. No condition. -/
import Derived.Test.YtebbaacgalipaaaFnTrapStepsC
set_option linter.unusedSimpArgs false
/- loop.example/g01158/spec.l2Maze -/
namespace Go.Proofs
open Go Go.Ga
set_option linter.unusedVariables false
set_option maxRecDepth 100000
set_option maxHeartbeats 4000000
def spec_l2Maze.l1 (k : Nat) (a0_0 : Int) (a0_2 : List Int) : Nat → Int → Option ((Unit) ⊕ (Bool))
 | 0, _ => none
 | n + 1, x5 => (if (decide (x5 < a0_0)) = true then (rdl a0_2 x5).bind fun t85 => (spec_l2Set.f k t85).bind fun t87 => (if (!t87) = true then some (Sum.inr false) else spec_l2Maze.l1 k a0_0 a0_2 n (w64 (x5 + 1))) else some (Sum.inl ()))

def spec_l2Maze.l0 (k : Nat) (a0_0 : Int) (a0_1 : List (Int × Int × Int)) : Nat → Int → Option ((Unit) ⊕ (Bool))
 | 0, _ => none
 | n + 1, x3 => (if (decide (x3 < (a0_1.length : Int))) = true then (rdl a0_1 x3).bind fun t34 => ((spec_l1In.f k t34.1 0 (w64 (a0_0 - 1))).bind fun t41 => (if (!t41) = true then some true else (spec_l1In.f k t34.2.1 (w64 (t34.1 + 1)) (w64 (a0_0 - 1))).bind fun t52 => (if (!t52) = true then some true else (spec_l2Set.f k t34.2.2).bind fun t58 => (if (!t58) = true then some true else (if (decide (x3 > 0)) = true then (rdl a0_1 (w64 (x3 - 1))).bind fun t69 => (spec_l2Before.f k t69.1 t69.2.1 t69.2.2 t34.1 t34.2.1 t34.2.2).bind fun t72 => some (!t72) else some false))))).bind fun y75 => (if y75 = true then some (Sum.inr false) else spec_l2Maze.l0 k a0_0 a0_1 n (w64 (x3 + 1))) else some (Sum.inl ()))

def spec_l2Maze.f (k : Nat) (a0_0 : Int) (a0_1 : List (Int × Int × Int)) (a0_2 : List Int) : Option (Bool) := ((spec_l1In.f k a0_0 1 12).bind fun t8 => (if (!t8) = true then some true else (if (decide ((a0_1.length : Int) > 30)) = true then some true else some ((a0_2.length : Int) != a0_0)))).bind fun y23 => (if y23 = true then some false else (spec_l2Maze.l0 k a0_0 a0_1 k 0).bind fun s => Lr s some fun _ => (spec_l2Maze.l1 k a0_0 a0_2 k 0).bind fun s => Lr s some fun _ => some true)

theorem spec_l2Maze.ok {k : Nat}  {a0_0 : Int} {a0_1 : List (Int × Int × Int)} {a0_2 : List Int} {r0 : Bool} (h : spec_l2Maze.f k a0_0 a0_1 a0_2 = some r0) (w : World) {va0_1 : Value} {va0_2 : Value} (hr_a0_1 : Rd w va0_1 a0_1) (hr_a0_2 : Rd w va0_2 a0_2) :
  Calls Try.prog 184 ([.agg ([.int .i64 a0_0, va0_1, va0_2].toArray)] : List Value).toArray w (fun e w' => e = .returned (.bool r0) ∧ Ext w w') := by
 unfold spec_l2Maze.f at h
 have hl_va0_1 := hr_a0_1.len
 have hl_va0_2 := hr_a0_2.len
 refine Calls.of_tri (N := 89) Try.func184 rfl rfl rfl (Sep.nil (M := noM)) ?_
 refine Tri.seq (Tri.reg (l := [0, 1]) rfl ?_)
 refine F.mn rfl rfl rfl rfl (m_boxG rfl rfl) ?_
 rintro _ _ ⟨b1_1, rfl, rfl⟩
 refine F.qn rfl rfl rfl rfl (r_assign rfl) ?_
 refine F.nil (Nrm.seq (Tri.seq (Tri.seq ?_)))
 obtain ⟨y23, hE_1, h⟩ := bind_some h
 refine Tri.cut (fun e' C' => e' = [(1, .pointer (some ⟨b1_1, 0, none⟩)), (23, .bool y23)] ∧ C' = Sep w noM [R.box b1_1 27 [.int .i64 a0_0, va0_1, va0_2]]) ?_ (fun hj_1 => ?_)
 ·rintro _ _ ⟨rfl, rfl⟩
  refine Nrm.seq (Tri.cond (b := y23) rfl (fun g_1 => ?_) (fun g_1 => ?_))
  ·replace h := if_tt g_1 h
   refine Tri.seq (Tri.reg (l := [0]) rfl ?_)
   refine F.qn rfl rfl rfl rfl (r_assign rfl) ?_
   refine F.nil (Nrm.seq (Tri.ret ?_))
   refine Rtn.then ?_
   cases h
   exact Rtn.body (.tmp rfl .nil) (fun w hw => ⟨rfl, hw.ext⟩)
  ·replace h := if_ff g_1 h
   refine Tri.skip (Nrm.seq (Tri.seq (Tri.seq (Tri.reg (l := [0]) rfl ?_))))
   refine F.qn rfl rfl rfl rfl (r_assign rfl) ?_
   refine F.nil (Nrm.seq ?_)
   obtain ⟨s0, hE_2, h⟩ := bind_some h
   refine Tri.block ?_
   refine Tri.only [1, 3] rfl ?_
   refine Tri.pick [0] rfl rfl ?_
   refine Tri.rounds (fun n e' C' => ∃ (x3' : Int), spec_l2Maze.l0 k a0_0 a0_1 n x3' = some s0 ∧ e' = [(1, .pointer (some ⟨b1_1, 0, none⟩)), (3, .int .i64 x3')] ∧ C' = Sep w noM [R.box b1_1 27 [.int .i64 a0_0, va0_1, va0_2]]) k ?_ ?_ ?_
   ·exact ⟨0, hE_2, rfl, rfl⟩
   ·rintro _ _ ⟨_, hE_2, _⟩
    rw [spec_l2Maze.l0.eq_1] at hE_2; cases hE_2
   ·rintro n_1 _ _ ⟨x3, hE_2, rfl, rfl⟩ ih_1
    rw [spec_l2Maze.l0.eq_2] at hE_2
    refine Tri.seq (Tri.seq (Tri.reg (l := [0, 1, 2, 3, 4]) rfl ?_))
    refine F.qn rfl rfl rfl rfl (r_move rfl) ?_
    refine F.qn rfl rfl rfl rfl (r_fieldAddr tf27_1 rfl) ?_
    refine F.qn rfl rfl rfl rfl (r_load ta24 rfl (fun w hw => cell_1 (box_cells (i := 0) rfl w hw) rfl)) ?_
    refine F.qn rfl rfl rfl rfl (r_len Try.underlying24 rfl hl_va0_1) ?_
    refine F.qn rfl rfl rfl rfl (r_lss rfl rfl) ?_
    refine F.nil (Nrm.seq (Tri.cond (b := decide (x3 < (a0_1.length : Int))) rfl (fun g_2 => ?_) (fun g_2 => ?_)))
    ·replace hE_2 := if_tt g_2 hE_2
     refine Tri.skip (Nrm.seq (Tri.seq (Tri.block ?_)))
     refine Tri.seq ?_
     obtain ⟨t34, h34, hE_2⟩ := bind_some hE_2
     refine Tri.reg (l := [0, 1, 2, 3, 4, 5, 6]) rfl ?_
     refine F.qn rfl rfl rfl rfl (r_fieldAddr tf27_1 rfl) ?_
     refine F.qn rfl rfl rfl rfl (r_load ta24 rfl (fun w hw => cell_1 (box_cells (i := 0) rfl w hw) rfl)) ?_
     refine F.qn rfl rfl rfl rfl (r_move rfl) ?_
     refine F.qn rfl rfl rfl rfl (r_indexAddrS Try.underlying24 ti121 rfl hl_va0_1 rfl (rdl_some h34).1 (rdl_some h34).2.1) ?_
     refine F.qn rfl rfl rfl rfl (r_loadA ta121 ti121 rfl rfl (fun w hw => (Rd.flat ((fun _ hw => hr_a0_1.sep hw) w hw) (rdl_some h34).2.2))) ?_
     refine F.mn rfl rfl rfl rfl (m_alloc ti121) ?_
     rintro _ _ ⟨b4_1, rfl, rfl⟩
     refine F.ef0 rfl rfl (wanted_none rfl) (d_storeG0 (i := 0) (cs2 := [.int .i64 t34.1, .int .i64 t34.2.1, .int .i64 t34.2.2]) ti121 rfl rfl rfl rfl rfl (Nat.le_of_ble_eq_true rfl) (lf_cons rfl (lf_cons rfl (lf_cons rfl lf_nil)))) ?_
     rintro _ _ ⟨rfl, rfl⟩
     refine F.nil (Nrm.seq (Tri.seq ?_))
     obtain ⟨y75, hE_3, hE_2⟩ := bind_some hE_2
     refine Tri.cut (fun e' C' => e' = [(1, .pointer (some ⟨b1_1, 0, none⟩)), (3, .int .i64 x3), (75, .bool y75)] ∧ C' = Sep w noM [R.box b1_1 27 [.int .i64 a0_0, va0_1, va0_2]]) ?_ (fun hj_2 => ?_)
     ·rintro _ _ ⟨rfl, rfl⟩
      refine Nrm.seq (Tri.cond (b := y75) rfl (fun g_3 => ?_) (fun g_3 => ?_))
      ·replace hE_2 := if_tt g_3 hE_2
       refine Tri.seq (Tri.reg (l := [0]) rfl ?_)
       refine F.qn rfl rfl rfl rfl (r_assign rfl) ?_
       refine F.nil (Nrm.seq (Tri.ret ?_))
       refine Rtn.block ?_
       refine Rtn.then ?_
       refine Rtn.then ?_
       refine Rtn.block ?_
       refine Rtn.then ?_
       cases hE_2
       replace h := Lr_inr h
       cases h
       exact Rtn.body (.tmp rfl .nil) (fun w hw => ⟨rfl, hw.ext⟩)
      ·replace hE_2 := if_ff g_3 hE_2
       refine Tri.skip (Nrm.block ?_)
       refine Nrm.seq (Tri.reg (l := [0, 1, 2]) rfl ?_)
       refine F.qn rfl rfl rfl rfl (r_move rfl) ?_
       refine F.qn rfl rfl rfl rfl (r_add rfl rfl) ?_
       refine F.qn rfl rfl rfl rfl (r_assign rfl) ?_
       refine F.nil (Nrm.round ?_)
       refine Rnd.only [1, 3] rfl ?_
       refine Rnd.pick [0] rfl rfl ?_
       exact ih_1 _ _ ⟨w64 (x3 + 1), hE_2, rfl, rfl⟩
     ·obtain ⟨t41, h41, hE_3⟩ := bind_some hE_3
      rcases Bool.eq_false_or_eq_true (!t41) with g43 | g43
      ·replace hE_3 := if_tt g43 hE_3
       refine Tri.drawA mixedT Sep.up [(0, true), (1, true), (2, true), (3, true), (4, true), (5, true), (6, true), (7, true), (8, true), (9, true), (10, true), (11, true), (12, true), (13, true), (14, true), (15, true), (16, true), (17, true), (18, true), (19, true), (20, true), (21, true), (22, true), (23, true), (24, true), (25, true), (26, true), (27, true), (28, true), (29, true), (30, true), (31, true), (32, true), (33, true), (34, true), (35, true), (36, true), (37, true), (38, true), (39, true)] [] (by kernel_rfl) ?_
       refine S.qn rfl rfl rfl rfl (r_indexAddrA Try.underlying121 ti3 rfl rfl (by decide) (by decide)) ?_
       refine S.qn rfl rfl rfl rfl (r_load ta3 rfl (fun w hw => cell_1 (box_cells (i := 0) rfl w hw) rfl)) ?_
       refine S.qn rfl rfl rfl rfl (r_fieldAddr tf27_0 rfl) ?_
       refine S.qn rfl rfl rfl rfl (r_load ta3 rfl (fun w hw => cell_1 (box_cells (i := 1) rfl w hw) rfl)) ?_
       refine S.qn rfl rfl rfl rfl (r_sub rfl rfl) ?_
       refine S.qcn rfl rfl rfl rfl (q_callF (xs := _) rfl ok105 rfl rfl (fun w hw => spec_l1In.ok h41 w )) ?_
       refine S.qn rfl rfl rfl rfl (r_not rfl) ?_
       refine S.qn rfl rfl rfl rfl (r_move rfl) ?_
       iterate 10 refine S.sk rfl rfl rfl (wf rfl rfl rfl g43) ?_
       refine S.qn rfl rfl rfl rfl (r_pick rfl rfl g43) ?_
       refine S.qn rfl rfl rfl rfl (r_move rfl) ?_
       iterate 4 refine S.sk rfl rfl rfl (wf rfl rfl rfl rfl) ?_
       refine S.qn rfl rfl rfl rfl (r_pick rfl rfl rfl) ?_
       refine S.qn rfl rfl rfl rfl (r_move rfl) ?_
       iterate 3 refine S.sk rfl rfl rfl (wf rfl rfl rfl rfl) ?_
       iterate 9 refine S.sk rfl rfl rfl (wanted_undef rfl rfl rfl) ?_
       refine S.sk rfl rfl rfl (wf rfl rfl rfl rfl) ?_
       refine S.qn rfl rfl rfl rfl (r_pick rfl rfl rfl) ?_
       refine S.nil (F.nil ?_)
       cases hE_3
       refine Nrm.only [1, 3, 75] rfl ?_
       refine Nrm.pick [1] rfl rfl ?_
       exact hj_2 _ _ ⟨rfl, rfl⟩
      ·replace hE_3 := if_ff g43 hE_3
       obtain ⟨t52, h52, hE_3⟩ := bind_some hE_3
       rcases Bool.eq_false_or_eq_true (!t52) with g55 | g55
       ·replace hE_3 := if_tt g55 hE_3
        refine Tri.drawA mixedT Sep.up [(0, true), (1, true), (2, true), (3, true), (4, true), (5, true), (6, true), (7, true), (8, true), (9, true), (10, true), (11, true), (12, true), (13, true), (14, true), (15, true), (16, true), (17, true), (18, true), (19, true), (20, true), (21, true), (22, true), (23, true), (24, true), (25, true), (26, true), (27, true), (28, true), (29, true), (30, true), (31, true), (32, true), (33, true), (34, true), (35, true), (36, true), (37, true), (38, true), (39, true)] [] (by kernel_rfl) ?_
        refine S.qn rfl rfl rfl rfl (r_indexAddrA Try.underlying121 ti3 rfl rfl (by decide) (by decide)) ?_
        refine S.qn rfl rfl rfl rfl (r_load ta3 rfl (fun w hw => cell_1 (box_cells (i := 0) rfl w hw) rfl)) ?_
        refine S.qn rfl rfl rfl rfl (r_fieldAddr tf27_0 rfl) ?_
        refine S.qn rfl rfl rfl rfl (r_load ta3 rfl (fun w hw => cell_1 (box_cells (i := 1) rfl w hw) rfl)) ?_
        refine S.qn rfl rfl rfl rfl (r_sub rfl rfl) ?_
        refine S.qcn rfl rfl rfl rfl (q_callF (xs := _) rfl ok105 rfl rfl (fun w hw => spec_l1In.ok h41 w )) ?_
        refine S.qn rfl rfl rfl rfl (r_not rfl) ?_
        refine S.qn rfl rfl rfl rfl (r_move rfl) ?_
        refine S.qg rfl rfl rfl rfl rfl rfl g43 (r_indexAddrA Try.underlying121 ti3 rfl rfl (by decide) (by decide)) ?_
        refine S.qg rfl rfl rfl rfl rfl rfl g43 (r_load ta3 rfl (fun w hw => cell_1 (box_cells (i := 0) rfl w hw) rfl)) ?_
        refine S.qg rfl rfl rfl rfl rfl rfl g43 (r_indexAddrA Try.underlying121 ti3 rfl rfl (by decide) (by decide)) ?_
        refine S.qg rfl rfl rfl rfl rfl rfl g43 (r_load ta3 rfl (fun w hw => cell_1 (box_cells (i := 0) rfl w hw) rfl)) ?_
        refine S.qg rfl rfl rfl rfl rfl rfl g43 (r_add rfl rfl) ?_
        refine S.qg rfl rfl rfl rfl rfl rfl g43 (r_fieldAddr tf27_0 rfl) ?_
        refine S.qg rfl rfl rfl rfl rfl rfl g43 (r_load ta3 rfl (fun w hw => cell_1 (box_cells (i := 1) rfl w hw) rfl)) ?_
        refine S.qg rfl rfl rfl rfl rfl rfl g43 (r_sub rfl rfl) ?_
        refine S.qc rfl rfl rfl (wg rfl rfl rfl g43) (q_callF (xs := _) rfl ok105 rfl rfl (fun w hw => spec_l1In.ok h52 w )) ?_
        refine S.qg rfl rfl rfl rfl rfl rfl g43 (r_not rfl) ?_
        refine S.qn rfl rfl rfl rfl (r_pickf rfl rfl g43) ?_
        refine S.qn rfl rfl rfl rfl (r_move rfl) ?_
        iterate 4 refine S.sk rfl rfl rfl (wf rfl rfl rfl g55) ?_
        refine S.qn rfl rfl rfl rfl (r_pick rfl rfl g55) ?_
        refine S.qn rfl rfl rfl rfl (r_move rfl) ?_
        iterate 3 refine S.sk rfl rfl rfl (wf rfl rfl rfl rfl) ?_
        iterate 9 refine S.sk rfl rfl rfl (wanted_undef rfl rfl rfl) ?_
        refine S.sk rfl rfl rfl (wf rfl rfl rfl rfl) ?_
        refine S.qn rfl rfl rfl rfl (r_pick rfl rfl rfl) ?_
        refine S.nil (F.nil ?_)
        cases hE_3
        refine Nrm.only [1, 3, 75] rfl ?_
        refine Nrm.pick [1] rfl rfl ?_
        exact hj_2 _ _ ⟨rfl, rfl⟩
       ·replace hE_3 := if_ff g55 hE_3
        obtain ⟨t58, h58, hE_3⟩ := bind_some hE_3
        rcases Bool.eq_false_or_eq_true (!t58) with g61 | g61
        ·replace hE_3 := if_tt g61 hE_3
         refine Tri.drawA mixedT Sep.up [(0, true), (1, true), (2, true), (3, true), (4, true), (5, true), (6, true), (7, true), (8, true), (9, true), (10, true), (11, true), (12, true), (13, true), (14, true), (15, true), (16, true), (17, true), (18, true), (19, true), (20, true), (21, true), (22, true), (23, true), (24, true), (25, true), (26, true), (27, true), (28, true), (29, true), (30, true), (31, true), (32, true), (33, true), (34, true), (35, true), (36, true), (37, true), (38, true), (39, true)] [] (by kernel_rfl) ?_
         refine S.qn rfl rfl rfl rfl (r_indexAddrA Try.underlying121 ti3 rfl rfl (by decide) (by decide)) ?_
         refine S.qn rfl rfl rfl rfl (r_load ta3 rfl (fun w hw => cell_1 (box_cells (i := 0) rfl w hw) rfl)) ?_
         refine S.qn rfl rfl rfl rfl (r_fieldAddr tf27_0 rfl) ?_
         refine S.qn rfl rfl rfl rfl (r_load ta3 rfl (fun w hw => cell_1 (box_cells (i := 1) rfl w hw) rfl)) ?_
         refine S.qn rfl rfl rfl rfl (r_sub rfl rfl) ?_
         refine S.qcn rfl rfl rfl rfl (q_callF (xs := _) rfl ok105 rfl rfl (fun w hw => spec_l1In.ok h41 w )) ?_
         refine S.qn rfl rfl rfl rfl (r_not rfl) ?_
         refine S.qn rfl rfl rfl rfl (r_move rfl) ?_
         refine S.qg rfl rfl rfl rfl rfl rfl g43 (r_indexAddrA Try.underlying121 ti3 rfl rfl (by decide) (by decide)) ?_
         refine S.qg rfl rfl rfl rfl rfl rfl g43 (r_load ta3 rfl (fun w hw => cell_1 (box_cells (i := 0) rfl w hw) rfl)) ?_
         refine S.qg rfl rfl rfl rfl rfl rfl g43 (r_indexAddrA Try.underlying121 ti3 rfl rfl (by decide) (by decide)) ?_
         refine S.qg rfl rfl rfl rfl rfl rfl g43 (r_load ta3 rfl (fun w hw => cell_1 (box_cells (i := 0) rfl w hw) rfl)) ?_
         refine S.qg rfl rfl rfl rfl rfl rfl g43 (r_add rfl rfl) ?_
         refine S.qg rfl rfl rfl rfl rfl rfl g43 (r_fieldAddr tf27_0 rfl) ?_
         refine S.qg rfl rfl rfl rfl rfl rfl g43 (r_load ta3 rfl (fun w hw => cell_1 (box_cells (i := 1) rfl w hw) rfl)) ?_
         refine S.qg rfl rfl rfl rfl rfl rfl g43 (r_sub rfl rfl) ?_
         refine S.qc rfl rfl rfl (wg rfl rfl rfl g43) (q_callF (xs := _) rfl ok105 rfl rfl (fun w hw => spec_l1In.ok h52 w )) ?_
         refine S.qg rfl rfl rfl rfl rfl rfl g43 (r_not rfl) ?_
         refine S.qn rfl rfl rfl rfl (r_pickf rfl rfl g43) ?_
         refine S.qn rfl rfl rfl rfl (r_move rfl) ?_
         refine S.qg rfl rfl rfl rfl rfl rfl g55 (r_indexAddrA Try.underlying121 ti3 rfl rfl (by decide) (by decide)) ?_
         refine S.qg rfl rfl rfl rfl rfl rfl g55 (r_load ta3 rfl (fun w hw => cell_1 (box_cells (i := 0) rfl w hw) rfl)) ?_
         refine S.qc rfl rfl rfl (wg rfl rfl rfl g55) (q_callF (xs := _) rfl ok92 rfl rfl (fun w hw => spec_l2Set.ok h58 w )) ?_
         refine S.qg rfl rfl rfl rfl rfl rfl g55 (r_not rfl) ?_
         refine S.qn rfl rfl rfl rfl (r_pickf rfl rfl g55) ?_
         refine S.qn rfl rfl rfl rfl (r_move rfl) ?_
         iterate 3 refine S.sk rfl rfl rfl (wf rfl rfl rfl g61) ?_
         iterate 9 refine S.sk rfl rfl rfl (wanted_undef rfl rfl rfl) ?_
         refine S.sk rfl rfl rfl (wf rfl rfl rfl g61) ?_
         refine S.qn rfl rfl rfl rfl (r_pick rfl rfl g61) ?_
         refine S.nil (F.nil ?_)
         cases hE_3
         refine Nrm.only [1, 3, 75] rfl ?_
         refine Nrm.pick [1] rfl rfl ?_
         exact hj_2 _ _ ⟨rfl, rfl⟩
        ·replace hE_3 := if_ff g61 hE_3
         rcases Bool.eq_false_or_eq_true (decide (x3 > 0)) with g64 | g64
         ·replace hE_3 := if_tt g64 hE_3
          obtain ⟨t69, h69, hE_3⟩ := bind_some hE_3
          obtain ⟨t72, h72, hE_3⟩ := bind_some hE_3
          refine Tri.drawA mixedT Sep.up [(0, true), (1, true), (2, true), (3, true), (4, true), (5, true), (6, true), (7, true), (8, true), (9, true), (10, true), (11, true), (12, true), (13, true), (14, true), (15, true), (16, true), (17, true), (18, true), (19, true), (20, true), (21, true), (22, true), (23, true), (24, true), (25, true), (26, true), (27, true), (28, true), (29, true), (30, true), (31, true), (32, true), (33, true), (34, true), (35, true), (36, true), (37, true), (38, true), (39, true)] [] (by kernel_rfl) ?_
          refine S.qn rfl rfl rfl rfl (r_indexAddrA Try.underlying121 ti3 rfl rfl (by decide) (by decide)) ?_
          refine S.qn rfl rfl rfl rfl (r_load ta3 rfl (fun w hw => cell_1 (box_cells (i := 0) rfl w hw) rfl)) ?_
          refine S.qn rfl rfl rfl rfl (r_fieldAddr tf27_0 rfl) ?_
          refine S.qn rfl rfl rfl rfl (r_load ta3 rfl (fun w hw => cell_1 (box_cells (i := 1) rfl w hw) rfl)) ?_
          refine S.qn rfl rfl rfl rfl (r_sub rfl rfl) ?_
          refine S.qcn rfl rfl rfl rfl (q_callF (xs := _) rfl ok105 rfl rfl (fun w hw => spec_l1In.ok h41 w )) ?_
          refine S.qn rfl rfl rfl rfl (r_not rfl) ?_
          refine S.qn rfl rfl rfl rfl (r_move rfl) ?_
          refine S.qg rfl rfl rfl rfl rfl rfl g43 (r_indexAddrA Try.underlying121 ti3 rfl rfl (by decide) (by decide)) ?_
          refine S.qg rfl rfl rfl rfl rfl rfl g43 (r_load ta3 rfl (fun w hw => cell_1 (box_cells (i := 0) rfl w hw) rfl)) ?_
          refine S.qg rfl rfl rfl rfl rfl rfl g43 (r_indexAddrA Try.underlying121 ti3 rfl rfl (by decide) (by decide)) ?_
          refine S.qg rfl rfl rfl rfl rfl rfl g43 (r_load ta3 rfl (fun w hw => cell_1 (box_cells (i := 0) rfl w hw) rfl)) ?_
          refine S.qg rfl rfl rfl rfl rfl rfl g43 (r_add rfl rfl) ?_
          refine S.qg rfl rfl rfl rfl rfl rfl g43 (r_fieldAddr tf27_0 rfl) ?_
          refine S.qg rfl rfl rfl rfl rfl rfl g43 (r_load ta3 rfl (fun w hw => cell_1 (box_cells (i := 1) rfl w hw) rfl)) ?_
          refine S.qg rfl rfl rfl rfl rfl rfl g43 (r_sub rfl rfl) ?_
          refine S.qc rfl rfl rfl (wg rfl rfl rfl g43) (q_callF (xs := _) rfl ok105 rfl rfl (fun w hw => spec_l1In.ok h52 w )) ?_
          refine S.qg rfl rfl rfl rfl rfl rfl g43 (r_not rfl) ?_
          refine S.qn rfl rfl rfl rfl (r_pickf rfl rfl g43) ?_
          refine S.qn rfl rfl rfl rfl (r_move rfl) ?_
          refine S.qg rfl rfl rfl rfl rfl rfl g55 (r_indexAddrA Try.underlying121 ti3 rfl rfl (by decide) (by decide)) ?_
          refine S.qg rfl rfl rfl rfl rfl rfl g55 (r_load ta3 rfl (fun w hw => cell_1 (box_cells (i := 0) rfl w hw) rfl)) ?_
          refine S.qc rfl rfl rfl (wg rfl rfl rfl g55) (q_callF (xs := _) rfl ok92 rfl rfl (fun w hw => spec_l2Set.ok h58 w )) ?_
          refine S.qg rfl rfl rfl rfl rfl rfl g55 (r_not rfl) ?_
          refine S.qn rfl rfl rfl rfl (r_pickf rfl rfl g55) ?_
          refine S.qn rfl rfl rfl rfl (r_move rfl) ?_
          refine S.qg rfl rfl rfl rfl rfl rfl g61 (r_move rfl) ?_
          refine S.qg rfl rfl rfl rfl rfl rfl g61 (r_gtr rfl rfl) ?_
          refine S.qg rfl rfl rfl rfl rfl rfl g61 (r_move rfl) ?_
          refine S.qg rfl rfl rfl rfl rfl rfl g64 (r_fieldAddr tf27_1 rfl) ?_
          refine S.qg rfl rfl rfl rfl rfl rfl g64 (r_load ta24 rfl (fun w hw => cell_1 (box_cells (i := 1) rfl w hw) rfl)) ?_
          refine S.qg rfl rfl rfl rfl rfl rfl g64 (r_move rfl) ?_
          refine S.qg rfl rfl rfl rfl rfl rfl g64 (r_sub rfl rfl) ?_
          refine S.qg rfl rfl rfl rfl rfl rfl g64 (r_indexAddrS Try.underlying24 ti121 rfl hl_va0_1 rfl (rdl_some h69).1 (rdl_some h69).2.1) ?_
          refine S.qg rfl rfl rfl rfl rfl rfl g64 (r_loadA ta121 ti121 rfl rfl (fun w hw => (Rd.flat ((fun _ hw => hr_a0_1.sep hw) w hw) (rdl_some h69).2.2))) ?_
          refine S.qg rfl rfl rfl rfl rfl rfl g64 (r_loadA ta121 ti121 rfl rfl (fun w hw => (box_cells (i := 0) rfl w hw))) ?_
          refine S.qc rfl rfl rfl (wg rfl rfl rfl g64) (q_callF (xs := _) rfl ok213 rfl rfl (fun w hw => spec_l2Before.ok h72 w )) ?_
          refine S.qg rfl rfl rfl rfl rfl rfl g64 (r_not rfl) ?_
          refine S.qg rfl rfl rfl rfl rfl rfl g61 (r_pick rfl rfl g64) ?_
          refine S.qn rfl rfl rfl rfl (r_pickf rfl rfl g61) ?_
          refine S.nil (F.nil ?_)
          cases hE_3
          refine Nrm.only [1, 3, 75] rfl ?_
          refine Nrm.pick [1] rfl rfl ?_
          exact hj_2 _ _ ⟨rfl, rfl⟩
         ·replace hE_3 := if_ff g64 hE_3
          refine Tri.drawA mixedT Sep.up [(0, true), (1, true), (2, true), (3, true), (4, true), (5, true), (6, true), (7, true), (8, true), (9, true), (10, true), (11, true), (12, true), (13, true), (14, true), (15, true), (16, true), (17, true), (18, true), (19, true), (20, true), (21, true), (22, true), (23, true), (24, true), (25, true), (26, true), (27, true), (28, true), (29, true), (30, true), (31, true), (32, true), (33, true), (34, true), (35, true), (36, true), (37, true), (38, true), (39, true)] [] (by kernel_rfl) ?_
          refine S.qn rfl rfl rfl rfl (r_indexAddrA Try.underlying121 ti3 rfl rfl (by decide) (by decide)) ?_
          refine S.qn rfl rfl rfl rfl (r_load ta3 rfl (fun w hw => cell_1 (box_cells (i := 0) rfl w hw) rfl)) ?_
          refine S.qn rfl rfl rfl rfl (r_fieldAddr tf27_0 rfl) ?_
          refine S.qn rfl rfl rfl rfl (r_load ta3 rfl (fun w hw => cell_1 (box_cells (i := 1) rfl w hw) rfl)) ?_
          refine S.qn rfl rfl rfl rfl (r_sub rfl rfl) ?_
          refine S.qcn rfl rfl rfl rfl (q_callF (xs := _) rfl ok105 rfl rfl (fun w hw => spec_l1In.ok h41 w )) ?_
          refine S.qn rfl rfl rfl rfl (r_not rfl) ?_
          refine S.qn rfl rfl rfl rfl (r_move rfl) ?_
          refine S.qg rfl rfl rfl rfl rfl rfl g43 (r_indexAddrA Try.underlying121 ti3 rfl rfl (by decide) (by decide)) ?_
          refine S.qg rfl rfl rfl rfl rfl rfl g43 (r_load ta3 rfl (fun w hw => cell_1 (box_cells (i := 0) rfl w hw) rfl)) ?_
          refine S.qg rfl rfl rfl rfl rfl rfl g43 (r_indexAddrA Try.underlying121 ti3 rfl rfl (by decide) (by decide)) ?_
          refine S.qg rfl rfl rfl rfl rfl rfl g43 (r_load ta3 rfl (fun w hw => cell_1 (box_cells (i := 0) rfl w hw) rfl)) ?_
          refine S.qg rfl rfl rfl rfl rfl rfl g43 (r_add rfl rfl) ?_
          refine S.qg rfl rfl rfl rfl rfl rfl g43 (r_fieldAddr tf27_0 rfl) ?_
          refine S.qg rfl rfl rfl rfl rfl rfl g43 (r_load ta3 rfl (fun w hw => cell_1 (box_cells (i := 1) rfl w hw) rfl)) ?_
          refine S.qg rfl rfl rfl rfl rfl rfl g43 (r_sub rfl rfl) ?_
          refine S.qc rfl rfl rfl (wg rfl rfl rfl g43) (q_callF (xs := _) rfl ok105 rfl rfl (fun w hw => spec_l1In.ok h52 w )) ?_
          refine S.qg rfl rfl rfl rfl rfl rfl g43 (r_not rfl) ?_
          refine S.qn rfl rfl rfl rfl (r_pickf rfl rfl g43) ?_
          refine S.qn rfl rfl rfl rfl (r_move rfl) ?_
          refine S.qg rfl rfl rfl rfl rfl rfl g55 (r_indexAddrA Try.underlying121 ti3 rfl rfl (by decide) (by decide)) ?_
          refine S.qg rfl rfl rfl rfl rfl rfl g55 (r_load ta3 rfl (fun w hw => cell_1 (box_cells (i := 0) rfl w hw) rfl)) ?_
          refine S.qc rfl rfl rfl (wg rfl rfl rfl g55) (q_callF (xs := _) rfl ok92 rfl rfl (fun w hw => spec_l2Set.ok h58 w )) ?_
          refine S.qg rfl rfl rfl rfl rfl rfl g55 (r_not rfl) ?_
          refine S.qn rfl rfl rfl rfl (r_pickf rfl rfl g55) ?_
          refine S.qn rfl rfl rfl rfl (r_move rfl) ?_
          refine S.qg rfl rfl rfl rfl rfl rfl g61 (r_move rfl) ?_
          refine S.qg rfl rfl rfl rfl rfl rfl g61 (r_gtr rfl rfl) ?_
          refine S.qg rfl rfl rfl rfl rfl rfl g61 (r_move rfl) ?_
          iterate 9 refine S.sk rfl rfl rfl (wf rfl rfl rfl g64) ?_
          refine S.qg rfl rfl rfl rfl rfl rfl g61 (r_pickf rfl rfl g64) ?_
          refine S.qn rfl rfl rfl rfl (r_pickf rfl rfl g61) ?_
          refine S.nil (F.nil ?_)
          cases hE_3
          refine Nrm.only [1, 3, 75] rfl ?_
          refine Nrm.pick [1] rfl rfl ?_
          exact hj_2 _ _ ⟨rfl, rfl⟩
    ·replace hE_2 := if_ff g_2 hE_2
     refine Tri.exit ?_
     refine Exi.then ?_
     refine Exi.then ?_
     refine Exi.same ?_
     cases hE_2
     replace h := Lr_inl h
     refine Nrm.seq (Tri.seq (Tri.seq (Tri.reg (l := [0]) rfl ?_)))
     refine F.qn rfl rfl rfl rfl (r_assign rfl) ?_
     refine F.nil (Nrm.seq ?_)
     obtain ⟨s1, hE_4, h⟩ := bind_some h
     refine Tri.block ?_
     refine Tri.only [1, 5] rfl ?_
     refine Tri.pick [0] rfl rfl ?_
     refine Tri.rounds (fun n e' C' => ∃ (x5' : Int), spec_l2Maze.l1 k a0_0 a0_2 n x5' = some s1 ∧ e' = [(1, .pointer (some ⟨b1_1, 0, none⟩)), (5, .int .i64 x5')] ∧ C' = Sep w noM [R.box b1_1 27 [.int .i64 a0_0, va0_1, va0_2]]) k ?_ ?_ ?_
     ·exact ⟨0, hE_4, rfl, rfl⟩
     ·rintro _ _ ⟨_, hE_4, _⟩
      rw [spec_l2Maze.l1.eq_1] at hE_4; cases hE_4
     ·rintro n_2 _ _ ⟨x5, hE_4, rfl, rfl⟩ ih_2
      rw [spec_l2Maze.l1.eq_2] at hE_4
      refine Tri.seq (Tri.seq (Tri.reg (l := [0, 1, 2, 3]) rfl ?_))
      refine F.qn rfl rfl rfl rfl (r_move rfl) ?_
      refine F.qn rfl rfl rfl rfl (r_fieldAddr tf27_0 rfl) ?_
      refine F.qn rfl rfl rfl rfl (r_load ta3 rfl (fun w hw => cell_1 (box_cells (i := 0) rfl w hw) rfl)) ?_
      refine F.qn rfl rfl rfl rfl (r_lss rfl rfl) ?_
      refine F.nil (Nrm.seq (Tri.cond (b := decide (x5 < a0_0)) rfl (fun g_4 => ?_) (fun g_4 => ?_)))
      ·replace hE_4 := if_tt g_4 hE_4
       refine Tri.skip (Nrm.seq (Tri.seq (Tri.block ?_)))
       refine Tri.seq ?_
       obtain ⟨t85, h85, hE_4⟩ := bind_some hE_4
       obtain ⟨t87, h87, hE_4⟩ := bind_some hE_4
       refine Tri.reg (l := [0, 1, 2, 3, 4, 5, 6]) rfl ?_
       refine F.qn rfl rfl rfl rfl (r_fieldAddr tf27_2 rfl) ?_
       refine F.qn rfl rfl rfl rfl (r_load ta25 rfl (fun w hw => cell_1 (box_cells (i := 0) rfl w hw) rfl)) ?_
       refine F.qn rfl rfl rfl rfl (r_move rfl) ?_
       refine F.qn rfl rfl rfl rfl (r_indexAddrS Try.underlying25 ti3 rfl hl_va0_2 rfl (rdl_some h85).1 (rdl_some h85).2.1) ?_
       refine F.qn rfl rfl rfl rfl (r_load ta3 rfl (fun w hw => cell_0 (Rd.flat ((fun _ hw => hr_a0_2.sep hw) w hw) (rdl_some h85).2.2) rfl)) ?_
       refine F.qcn rfl rfl rfl rfl (q_callF (xs := _) rfl ok92 rfl rfl (fun w hw => spec_l2Set.ok h87 w )) ?_
       refine F.qn rfl rfl rfl rfl (r_not rfl) ?_
       refine F.nil (Nrm.seq (Tri.cond (b := !t87) rfl (fun g_5 => ?_) (fun g_5 => ?_)))
       ·replace hE_4 := if_tt g_5 hE_4
        refine Tri.seq (Tri.reg (l := [0]) rfl ?_)
        refine F.qn rfl rfl rfl rfl (r_assign rfl) ?_
        refine F.nil (Nrm.seq (Tri.ret ?_))
        refine Rtn.block ?_
        refine Rtn.then ?_
        refine Rtn.then ?_
        refine Rtn.block ?_
        refine Rtn.then ?_
        cases hE_4
        replace h := Lr_inr h
        cases h
        exact Rtn.body (.tmp rfl .nil) (fun w hw => ⟨rfl, hw.ext⟩)
       ·replace hE_4 := if_ff g_5 hE_4
        refine Tri.skip (Nrm.block ?_)
        refine Nrm.seq (Tri.reg (l := [0, 1, 2]) rfl ?_)
        refine F.qn rfl rfl rfl rfl (r_move rfl) ?_
        refine F.qn rfl rfl rfl rfl (r_add rfl rfl) ?_
        refine F.qn rfl rfl rfl rfl (r_assign rfl) ?_
        refine F.nil (Nrm.round ?_)
        refine Rnd.only [1, 5] rfl ?_
        refine Rnd.pick [0] rfl rfl ?_
        exact ih_2 _ _ ⟨w64 (x5 + 1), hE_4, rfl, rfl⟩
      ·replace hE_4 := if_ff g_4 hE_4
       refine Tri.exit ?_
       refine Exi.then ?_
       refine Exi.then ?_
       refine Exi.same ?_
       cases hE_4
       replace h := Lr_inl h
       refine Nrm.seq (Tri.seq (Tri.reg (l := [0]) rfl ?_))
       refine F.qn rfl rfl rfl rfl (r_assign rfl) ?_
       refine F.nil (Nrm.seq (Tri.ret ?_))
       cases h
       exact Rtn.body (.tmp rfl .nil) (fun w hw => ⟨rfl, hw.ext⟩)
 ·obtain ⟨t8, h8, hE_1⟩ := bind_some hE_1
  rcases Bool.eq_false_or_eq_true (!t8) with g10 | g10
  ·replace hE_1 := if_tt g10 hE_1
   refine Tri.reg (l := List.range 18) rfl ?_
   refine F.qn rfl rfl rfl rfl (r_fieldAddr tf27_0 rfl) ?_
   refine F.qn rfl rfl rfl rfl (r_load ta3 rfl (fun w hw => cell_1 (box_cells (i := 0) rfl w hw) rfl)) ?_
   refine F.qcn rfl rfl rfl rfl (q_callF (xs := _) rfl ok105 rfl rfl (fun w hw => spec_l1In.ok h8 w )) ?_
   refine F.qn rfl rfl rfl rfl (r_not rfl) ?_
   refine F.qn rfl rfl rfl rfl (r_move rfl) ?_
   iterate 4 refine F.sk rfl rfl rfl (wf rfl rfl rfl g10) ?_
   refine F.qn rfl rfl rfl rfl (r_pick rfl rfl g10) ?_
   refine F.qn rfl rfl rfl rfl (r_move rfl) ?_
   iterate 6 refine F.sk rfl rfl rfl (wf rfl rfl rfl rfl) ?_
   refine F.qn rfl rfl rfl rfl (r_pick rfl rfl rfl) ?_
   refine F.nil ?_
   cases hE_1
   refine Nrm.only [1, 23] rfl ?_
   refine Nrm.pick [0] rfl rfl ?_
   exact hj_1 _ _ ⟨rfl, rfl⟩
  ·replace hE_1 := if_ff g10 hE_1
   rcases Bool.eq_false_or_eq_true (decide ((a0_1.length : Int) > 30)) with g16 | g16
   ·replace hE_1 := if_tt g16 hE_1
    refine Tri.reg (l := List.range 18) rfl ?_
    refine F.qn rfl rfl rfl rfl (r_fieldAddr tf27_0 rfl) ?_
    refine F.qn rfl rfl rfl rfl (r_load ta3 rfl (fun w hw => cell_1 (box_cells (i := 0) rfl w hw) rfl)) ?_
    refine F.qcn rfl rfl rfl rfl (q_callF (xs := _) rfl ok105 rfl rfl (fun w hw => spec_l1In.ok h8 w )) ?_
    refine F.qn rfl rfl rfl rfl (r_not rfl) ?_
    refine F.qn rfl rfl rfl rfl (r_move rfl) ?_
    refine F.qg rfl rfl rfl rfl rfl rfl g10 (r_fieldAddr tf27_1 rfl) ?_
    refine F.qg rfl rfl rfl rfl rfl rfl g10 (r_load ta24 rfl (fun w hw => cell_1 (box_cells (i := 0) rfl w hw) rfl)) ?_
    refine F.qg rfl rfl rfl rfl rfl rfl g10 (r_len Try.underlying24 rfl hl_va0_1) ?_
    refine F.qg rfl rfl rfl rfl rfl rfl g10 (r_gtr rfl rfl) ?_
    refine F.qn rfl rfl rfl rfl (r_pickf rfl rfl g10) ?_
    refine F.qn rfl rfl rfl rfl (r_move rfl) ?_
    iterate 6 refine F.sk rfl rfl rfl (wf rfl rfl rfl g16) ?_
    refine F.qn rfl rfl rfl rfl (r_pick rfl rfl g16) ?_
    refine F.nil ?_
    cases hE_1
    refine Nrm.only [1, 23] rfl ?_
    refine Nrm.pick [0] rfl rfl ?_
    exact hj_1 _ _ ⟨rfl, rfl⟩
   ·replace hE_1 := if_ff g16 hE_1
    refine Tri.reg (l := List.range 18) rfl ?_
    refine F.qn rfl rfl rfl rfl (r_fieldAddr tf27_0 rfl) ?_
    refine F.qn rfl rfl rfl rfl (r_load ta3 rfl (fun w hw => cell_1 (box_cells (i := 0) rfl w hw) rfl)) ?_
    refine F.qcn rfl rfl rfl rfl (q_callF (xs := _) rfl ok105 rfl rfl (fun w hw => spec_l1In.ok h8 w )) ?_
    refine F.qn rfl rfl rfl rfl (r_not rfl) ?_
    refine F.qn rfl rfl rfl rfl (r_move rfl) ?_
    refine F.qg rfl rfl rfl rfl rfl rfl g10 (r_fieldAddr tf27_1 rfl) ?_
    refine F.qg rfl rfl rfl rfl rfl rfl g10 (r_load ta24 rfl (fun w hw => cell_1 (box_cells (i := 0) rfl w hw) rfl)) ?_
    refine F.qg rfl rfl rfl rfl rfl rfl g10 (r_len Try.underlying24 rfl hl_va0_1) ?_
    refine F.qg rfl rfl rfl rfl rfl rfl g10 (r_gtr rfl rfl) ?_
    refine F.qn rfl rfl rfl rfl (r_pickf rfl rfl g10) ?_
    refine F.qn rfl rfl rfl rfl (r_move rfl) ?_
    refine F.qg rfl rfl rfl rfl rfl rfl g16 (r_fieldAddr tf27_2 rfl) ?_
    refine F.qg rfl rfl rfl rfl rfl rfl g16 (r_load ta25 rfl (fun w hw => cell_1 (box_cells (i := 0) rfl w hw) rfl)) ?_
    refine F.qg rfl rfl rfl rfl rfl rfl g16 (r_len Try.underlying25 rfl hl_va0_2) ?_
    refine F.qg rfl rfl rfl rfl rfl rfl g16 (r_fieldAddr tf27_0 rfl) ?_
    refine F.qg rfl rfl rfl rfl rfl rfl g16 (r_load ta3 rfl (fun w hw => cell_1 (box_cells (i := 0) rfl w hw) rfl)) ?_
    refine F.qg rfl rfl rfl rfl rfl rfl g16 (r_neq rfl rfl) ?_
    refine F.qn rfl rfl rfl rfl (r_pickf rfl rfl g16) ?_
    refine F.nil ?_
    cases hE_1
    refine Nrm.only [1, 23] rfl ?_
    refine Nrm.pick [0] rfl rfl ?_
    exact hj_1 _ _ ⟨rfl, rfl⟩


def spec_l1Rising.l0 (k : Nat) (a0 : List Int) (a1 : Int) (a2 : Int) : Nat → Int → Option ((Unit) ⊕ (Bool))
 | 0, _ => none
 | n + 1, x7 => (if (decide (x7 < (a0.length : Int))) = true then ((rdl a0 x7).bind fun t16 => (spec_l1In.f k t16 a1 a2).bind fun t20 => (if (!t20) = true then some true else (if (decide (x7 > 0)) = true then (rdl a0 (w64 (x7 - 1))).bind fun t29 => (rdl a0 x7).bind fun t33 => some (decide (t29 ≥ t33)) else some false))).bind fun y37 => (if y37 = true then some (Sum.inr false) else spec_l1Rising.l0 k a0 a1 a2 n (w64 (x7 + 1))) else some (Sum.inl ()))

def spec_l1Rising.f (k : Nat) (a0 : List Int) (a1 : Int) (a2 : Int) : Option (Bool) := (spec_l1Rising.l0 k a0 a1 a2 k 0).bind fun s => Lr s some fun _ => some true

theorem spec_l1Rising.ok {k : Nat}  {a0 : List Int} {a1 : Int} {a2 : Int} {r0 : Bool} (h : spec_l1Rising.f k a0 a1 a2 = some r0) (w : World) {va0 : Value} (hr_a0 : Rd w va0 a0) :
  Calls Try.prog 191 ([va0, .int .i64 a1, .int .i64 a2] : List Value).toArray w (fun e w' => e = .returned (.bool r0) ∧ Ext w w') := by
 unfold spec_l1Rising.f at h
 have hl_va0 := hr_a0.len
 refine Calls.of_tri (N := 38) Try.func191 rfl rfl rfl (Sep.nil (M := noM)) ?_
 refine Tri.seq (Tri.reg (l := [0]) rfl ?_)
 refine F.qn rfl rfl rfl rfl (r_assign rfl) ?_
 refine F.nil (Nrm.seq (Tri.seq (Tri.seq (Tri.reg (l := [0]) rfl ?_))))
 refine F.qn rfl rfl rfl rfl (r_assign rfl) ?_
 refine F.nil (Nrm.seq ?_)
 obtain ⟨s0, hE_1, h⟩ := bind_some h
 refine Tri.block ?_
 refine Tri.only [0, 1, 2, 7] rfl ?_
 refine Tri.pick [] rfl rfl ?_
 refine Tri.rounds (fun n e' C' => ∃ (x7' : Int), spec_l1Rising.l0 k a0 a1 a2 n x7' = some s0 ∧ e' = [(0, va0), (1, .int .i64 a1), (2, .int .i64 a2), (7, .int .i64 x7')] ∧ C' = Sep w noM []) k ?_ ?_ ?_
 ·exact ⟨0, hE_1, rfl, rfl⟩
 ·rintro _ _ ⟨_, hE_1, _⟩
  rw [spec_l1Rising.l0.eq_1] at hE_1; cases hE_1
 ·rintro n_1 _ _ ⟨x7, hE_1, rfl, rfl⟩ ih_1
  rw [spec_l1Rising.l0.eq_2] at hE_1
  refine Tri.seq (Tri.seq (Tri.reg (l := [0, 1, 2, 3]) rfl ?_))
  refine F.qn rfl rfl rfl rfl (r_move rfl) ?_
  refine F.qn rfl rfl rfl rfl (r_move rfl) ?_
  refine F.qn rfl rfl rfl rfl (r_len Try.underlying25 rfl hl_va0) ?_
  refine F.qn rfl rfl rfl rfl (r_lss rfl rfl) ?_
  refine F.nil (Nrm.seq (Tri.cond (b := decide (x7 < (a0.length : Int))) rfl (fun g_1 => ?_) (fun g_1 => ?_)))
  ·replace hE_1 := if_tt g_1 hE_1
   refine Tri.skip (Nrm.seq (Tri.seq (Tri.block ?_)))
   refine Tri.seq ?_
   obtain ⟨y37, hE_2, hE_1⟩ := bind_some hE_1
   refine Tri.cut (fun e' C' => e' = [(0, va0), (1, .int .i64 a1), (2, .int .i64 a2), (7, .int .i64 x7), (37, .bool y37)] ∧ C' = Sep w noM []) ?_ (fun hj_1 => ?_)
   ·rintro _ _ ⟨rfl, rfl⟩
    refine Nrm.seq (Tri.cond (b := y37) rfl (fun g_2 => ?_) (fun g_2 => ?_))
    ·replace hE_1 := if_tt g_2 hE_1
     refine Tri.seq (Tri.reg (l := [0]) rfl ?_)
     refine F.qn rfl rfl rfl rfl (r_assign rfl) ?_
     refine F.nil (Nrm.seq (Tri.ret ?_))
     refine Rtn.block ?_
     refine Rtn.then ?_
     refine Rtn.then ?_
     refine Rtn.block ?_
     refine Rtn.then ?_
     cases hE_1
     replace h := Lr_inr h
     cases h
     exact Rtn.body (.tmp rfl .nil) (fun w hw => ⟨rfl, hw.ext⟩)
    ·replace hE_1 := if_ff g_2 hE_1
     refine Tri.skip (Nrm.block ?_)
     refine Nrm.seq (Tri.reg (l := [0, 1, 2]) rfl ?_)
     refine F.qn rfl rfl rfl rfl (r_move rfl) ?_
     refine F.qn rfl rfl rfl rfl (r_add rfl rfl) ?_
     refine F.qn rfl rfl rfl rfl (r_assign rfl) ?_
     refine F.nil (Nrm.round ?_)
     refine Rnd.only [0, 1, 2, 7] rfl ?_
     refine Rnd.pick [] rfl rfl ?_
     exact ih_1 _ _ ⟨w64 (x7 + 1), hE_1, rfl, rfl⟩
   ·obtain ⟨t16, h16, hE_2⟩ := bind_some hE_2
    obtain ⟨t20, h20, hE_2⟩ := bind_some hE_2
    rcases Bool.eq_false_or_eq_true (!t20) with g22 | g22
    ·replace hE_2 := if_tt g22 hE_2
     refine Tri.drawA mixedT Sep.up [(0, true), (1, true), (2, true), (3, true), (4, true), (5, true), (6, true), (7, true), (8, true), (9, true), (10, true), (11, true), (12, true), (13, true), (14, true), (15, true), (16, true), (17, true), (18, true), (19, true), (20, true), (21, true), (22, true), (23, true)] [] (by kernel_rfl) ?_
     refine S.qn rfl rfl rfl rfl (r_move rfl) ?_
     refine S.qn rfl rfl rfl rfl (r_move rfl) ?_
     refine S.qn rfl rfl rfl rfl (r_indexAddrS Try.underlying25 ti3 rfl hl_va0 rfl (rdl_some h16).1 (rdl_some h16).2.1) ?_
     refine S.qn rfl rfl rfl rfl (r_load ta3 rfl (fun w hw => cell_0 (Rd.flat ((fun _ hw => hr_a0.sep hw) w hw) (rdl_some h16).2.2) rfl)) ?_
     refine S.qn rfl rfl rfl rfl (r_move rfl) ?_
     refine S.qn rfl rfl rfl rfl (r_move rfl) ?_
     refine S.qcn rfl rfl rfl rfl (q_callF (xs := _) rfl ok105 rfl rfl (fun w hw => spec_l1In.ok h20 w )) ?_
     refine S.qn rfl rfl rfl rfl (r_not rfl) ?_
     refine S.qn rfl rfl rfl rfl (r_move rfl) ?_
     iterate 3 refine S.sk rfl rfl rfl (wf rfl rfl rfl g22) ?_
     iterate 10 refine S.sk rfl rfl rfl (wanted_undef rfl rfl rfl) ?_
     refine S.sk rfl rfl rfl (wf rfl rfl rfl g22) ?_
     refine S.qn rfl rfl rfl rfl (r_pick rfl rfl g22) ?_
     refine S.nil (F.nil ?_)
     cases hE_2
     refine Nrm.only [0, 1, 2, 7, 37] rfl ?_
     refine Nrm.pick [] rfl rfl ?_
     exact hj_1 _ _ ⟨rfl, rfl⟩
    ·replace hE_2 := if_ff g22 hE_2
     rcases Bool.eq_false_or_eq_true (decide (x7 > 0)) with g25 | g25
     ·replace hE_2 := if_tt g25 hE_2
      obtain ⟨t29, h29, hE_2⟩ := bind_some hE_2
      obtain ⟨t33, h33, hE_2⟩ := bind_some hE_2
      refine Tri.drawA mixedT Sep.up [(0, true), (1, true), (2, true), (3, true), (4, true), (5, true), (6, true), (7, true), (8, true), (9, true), (10, true), (11, true), (12, true), (13, true), (14, true), (15, true), (16, true), (17, true), (18, true), (19, true), (20, true), (21, true), (22, true), (23, true)] [] (by kernel_rfl) ?_
      refine S.qn rfl rfl rfl rfl (r_move rfl) ?_
      refine S.qn rfl rfl rfl rfl (r_move rfl) ?_
      refine S.qn rfl rfl rfl rfl (r_indexAddrS Try.underlying25 ti3 rfl hl_va0 rfl (rdl_some h16).1 (rdl_some h16).2.1) ?_
      refine S.qn rfl rfl rfl rfl (r_load ta3 rfl (fun w hw => cell_0 (Rd.flat ((fun _ hw => hr_a0.sep hw) w hw) (rdl_some h16).2.2) rfl)) ?_
      refine S.qn rfl rfl rfl rfl (r_move rfl) ?_
      refine S.qn rfl rfl rfl rfl (r_move rfl) ?_
      refine S.qcn rfl rfl rfl rfl (q_callF (xs := _) rfl ok105 rfl rfl (fun w hw => spec_l1In.ok h20 w )) ?_
      refine S.qn rfl rfl rfl rfl (r_not rfl) ?_
      refine S.qn rfl rfl rfl rfl (r_move rfl) ?_
      refine S.qg rfl rfl rfl rfl rfl rfl g22 (r_move rfl) ?_
      refine S.qg rfl rfl rfl rfl rfl rfl g22 (r_gtr rfl rfl) ?_
      refine S.qg rfl rfl rfl rfl rfl rfl g22 (r_move rfl) ?_
      refine S.qg rfl rfl rfl rfl rfl rfl g25 (r_move rfl) ?_
      refine S.qg rfl rfl rfl rfl rfl rfl g25 (r_move rfl) ?_
      refine S.qg rfl rfl rfl rfl rfl rfl g25 (r_sub rfl rfl) ?_
      refine S.qg rfl rfl rfl rfl rfl rfl g25 (r_indexAddrS Try.underlying25 ti3 rfl hl_va0 rfl (rdl_some h29).1 (rdl_some h29).2.1) ?_
      refine S.qg rfl rfl rfl rfl rfl rfl g25 (r_load ta3 rfl (fun w hw => cell_0 (Rd.flat ((fun _ hw => hr_a0.sep hw) w hw) (rdl_some h29).2.2) rfl)) ?_
      refine S.qg rfl rfl rfl rfl rfl rfl g25 (r_move rfl) ?_
      refine S.qg rfl rfl rfl rfl rfl rfl g25 (r_move rfl) ?_
      refine S.qg rfl rfl rfl rfl rfl rfl g25 (r_indexAddrS Try.underlying25 ti3 rfl hl_va0 rfl (rdl_some h33).1 (rdl_some h33).2.1) ?_
      refine S.qg rfl rfl rfl rfl rfl rfl g25 (r_load ta3 rfl (fun w hw => cell_0 (Rd.flat ((fun _ hw => hr_a0.sep hw) w hw) (rdl_some h33).2.2) rfl)) ?_
      refine S.qg rfl rfl rfl rfl rfl rfl g25 (r_geq rfl rfl) ?_
      refine S.qg rfl rfl rfl rfl rfl rfl g22 (r_pick rfl rfl g25) ?_
      refine S.qn rfl rfl rfl rfl (r_pickf rfl rfl g22) ?_
      refine S.nil (F.nil ?_)
      cases hE_2
      refine Nrm.only [0, 1, 2, 7, 37] rfl ?_
      refine Nrm.pick [] rfl rfl ?_
      exact hj_1 _ _ ⟨rfl, rfl⟩
     ·replace hE_2 := if_ff g25 hE_2
      refine Tri.drawA mixedT Sep.up [(0, true), (1, true), (2, true), (3, true), (4, true), (5, true), (6, true), (7, true), (8, true), (9, true), (10, true), (11, true), (12, true), (13, true), (14, true), (15, true), (16, true), (17, true), (18, true), (19, true), (20, true), (21, true), (22, true), (23, true)] [] (by kernel_rfl) ?_
      refine S.qn rfl rfl rfl rfl (r_move rfl) ?_
      refine S.qn rfl rfl rfl rfl (r_move rfl) ?_
      refine S.qn rfl rfl rfl rfl (r_indexAddrS Try.underlying25 ti3 rfl hl_va0 rfl (rdl_some h16).1 (rdl_some h16).2.1) ?_
      refine S.qn rfl rfl rfl rfl (r_load ta3 rfl (fun w hw => cell_0 (Rd.flat ((fun _ hw => hr_a0.sep hw) w hw) (rdl_some h16).2.2) rfl)) ?_
      refine S.qn rfl rfl rfl rfl (r_move rfl) ?_
      refine S.qn rfl rfl rfl rfl (r_move rfl) ?_
      refine S.qcn rfl rfl rfl rfl (q_callF (xs := _) rfl ok105 rfl rfl (fun w hw => spec_l1In.ok h20 w )) ?_
      refine S.qn rfl rfl rfl rfl (r_not rfl) ?_
      refine S.qn rfl rfl rfl rfl (r_move rfl) ?_
      refine S.qg rfl rfl rfl rfl rfl rfl g22 (r_move rfl) ?_
      refine S.qg rfl rfl rfl rfl rfl rfl g22 (r_gtr rfl rfl) ?_
      refine S.qg rfl rfl rfl rfl rfl rfl g22 (r_move rfl) ?_
      iterate 10 refine S.sk rfl rfl rfl (wf rfl rfl rfl g25) ?_
      refine S.qg rfl rfl rfl rfl rfl rfl g22 (r_pickf rfl rfl g25) ?_
      refine S.qn rfl rfl rfl rfl (r_pickf rfl rfl g22) ?_
      refine S.nil (F.nil ?_)
      cases hE_2
      refine Nrm.only [0, 1, 2, 7, 37] rfl ?_
      refine Nrm.pick [] rfl rfl ?_
      exact hj_1 _ _ ⟨rfl, rfl⟩
  ·replace hE_1 := if_ff g_1 hE_1
   refine Tri.exit ?_
   refine Exi.then ?_
   refine Exi.then ?_
   refine Exi.same ?_
   cases hE_1
   replace h := Lr_inl h
   refine Nrm.seq (Tri.seq (Tri.reg (l := [0]) rfl ?_))
   refine F.qn rfl rfl rfl rfl (r_assign rfl) ?_
   refine F.nil (Nrm.seq (Tri.ret ?_))
   cases h
   exact Rtn.body (.tmp rfl .nil) (fun w hw => ⟨rfl, hw.ext⟩)


def spec_l11Trap.f (k : Nat) (a0_0 : Int) (a0_1 : List (Int × Int × Int)) (a0_2 : List Int) (a0_3 : List Int) : Option (Bool) := ((spec_l2Maze.f k a0_0 a0_1 a0_2).bind fun t5 => (if t5 = true then (spec_l1Rising.f k a0_3 0 (w64 ((a0_1.length : Int) - 1))).bind fun t14 => some t14 else some false)).bind fun y2 => some y2

theorem spec_l11Trap.ok {k : Nat}  {a0_0 : Int} {a0_1 : List (Int × Int × Int)} {a0_2 : List Int} {a0_3 : List Int} {r0 : Bool} (h : spec_l11Trap.f k a0_0 a0_1 a0_2 a0_3 = some r0) (w : World) {va0_1 : Value} {va0_2 : Value} {va0_3 : Value} (hr_a0_1 : Rd w va0_1 a0_1) (hr_a0_2 : Rd w va0_2 a0_2) (hr_a0_3 : Rd w va0_3 a0_3) :
  Calls Try.prog 131 ([.agg ([.int .i64 a0_0, va0_1, va0_2, va0_3].toArray)] : List Value).toArray w (fun e w' => e = .returned (.bool r0) ∧ Ext w w') := by
 unfold spec_l11Trap.f at h
 have hl_va0_1 := hr_a0_1.len
 have hl_va0_2 := hr_a0_2.len
 have hl_va0_3 := hr_a0_3.len
 refine Calls.of_tri (N := 16) Try.func131 rfl rfl rfl (Sep.nil (M := noM)) ?_
 refine Tri.seq (Tri.reg (l := [0, 1]) rfl ?_)
 refine F.mn rfl rfl rfl rfl (m_boxG rfl rfl) ?_
 rintro _ _ ⟨b1_1, rfl, rfl⟩
 refine F.qn rfl rfl rfl rfl (r_assign rfl) ?_
 refine F.nil (Nrm.seq (Tri.seq ?_))
 obtain ⟨y2, hE_1, h⟩ := bind_some h
 refine Tri.cut (fun e' C' => e' = [(2, .bool y2)] ∧ C' = Sep w noM []) ?_ (fun hj_1 => ?_)
 ·rintro _ _ ⟨rfl, rfl⟩
  refine Nrm.seq (Tri.ret ?_)
  cases h
  exact Rtn.body (.tmp rfl .nil) (fun w hw => ⟨rfl, hw.ext⟩)
 ·obtain ⟨t5, h5, hE_1⟩ := bind_some hE_1
  rcases Bool.eq_false_or_eq_true (t5) with g6 | g6
  ·replace hE_1 := if_tt g6 hE_1
   obtain ⟨t14, h14, hE_1⟩ := bind_some hE_1
   refine Tri.reg (l := List.range 14) rfl ?_
   refine F.qn rfl rfl rfl rfl (r_fieldAddr tf66_0 rfl) ?_
   refine F.qn rfl rfl rfl rfl (r_loadA ta27 ti27 rfl rfl (fun w hw => cells_1 (cs' := [.int .i64 a0_0, va0_1, va0_2]) (box_cells (i := 0) rfl w hw) rfl)) ?_
   refine F.qcn rfl rfl rfl rfl (q_callF (xs := _) rfl ok184 rfl rfl (fun w hw => spec_l2Maze.ok h5 w ((fun _ hw => hr_a0_1.sep hw) w hw) ((fun _ hw => hr_a0_2.sep hw) w hw))) ?_
   refine F.qn rfl rfl rfl rfl (r_move rfl) ?_
   refine F.qg rfl rfl rfl rfl rfl rfl g6 (r_fieldAddr tf66_1 rfl) ?_
   refine F.qg rfl rfl rfl rfl rfl rfl g6 (r_load ta25 rfl (fun w hw => cell_1 (box_cells (i := 0) rfl w hw) rfl)) ?_
   refine F.qg rfl rfl rfl rfl rfl rfl g6 (r_fieldAddr tf66_0 rfl) ?_
   refine F.qg rfl rfl rfl rfl rfl rfl g6 (r_fieldAddr tf27_1 rfl) ?_
   refine F.qg rfl rfl rfl rfl rfl rfl g6 (r_load ta24 rfl (fun w hw => cell_2 (box_cells (i := 0) rfl w hw) rfl)) ?_
   refine F.qg rfl rfl rfl rfl rfl rfl g6 (r_len Try.underlying24 rfl hl_va0_1) ?_
   refine F.qg rfl rfl rfl rfl rfl rfl g6 (r_sub rfl rfl) ?_
   refine F.qc rfl rfl rfl (wg rfl rfl rfl g6) (q_callF (xs := _) rfl ok191 rfl rfl (fun w hw => spec_l1Rising.ok h14 w ((fun _ hw => hr_a0_3.sep hw) w hw))) ?_
   refine F.qn rfl rfl rfl rfl (r_pick rfl rfl g6) ?_
   refine F.qn rfl rfl rfl rfl (r_assign rfl) ?_
   refine F.nil ?_
   cases hE_1
   refine Nrm.only [2] rfl ?_
   refine Nrm.pick [] rfl rfl ?_
   exact hj_1 _ _ ⟨rfl, rfl⟩
  ·replace hE_1 := if_ff g6 hE_1
   refine Tri.reg (l := List.range 14) rfl ?_
   refine F.qn rfl rfl rfl rfl (r_fieldAddr tf66_0 rfl) ?_
   refine F.qn rfl rfl rfl rfl (r_loadA ta27 ti27 rfl rfl (fun w hw => cells_1 (cs' := [.int .i64 a0_0, va0_1, va0_2]) (box_cells (i := 0) rfl w hw) rfl)) ?_
   refine F.qcn rfl rfl rfl rfl (q_callF (xs := _) rfl ok184 rfl rfl (fun w hw => spec_l2Maze.ok h5 w ((fun _ hw => hr_a0_1.sep hw) w hw) ((fun _ hw => hr_a0_2.sep hw) w hw))) ?_
   refine F.qn rfl rfl rfl rfl (r_move rfl) ?_
   iterate 8 refine F.sk rfl rfl rfl (wf rfl rfl rfl g6) ?_
   refine F.qn rfl rfl rfl rfl (r_pickf rfl rfl g6) ?_
   refine F.qn rfl rfl rfl rfl (r_assign rfl) ?_
   refine F.nil ?_
   cases hE_1
   refine Nrm.only [2] rfl ?_
   refine Nrm.pick [] rfl rfl ?_
   exact hj_1 _ _ ⟨rfl, rfl⟩


def spec_l1Cur_nodeOf.f (k : Nat) (a0_0 : List By) (a0_1 : Int) (a0_2 : Int) (a1_0 : Int) (a1_1 : List (Int × Int × Int)) (a1_2 : List Int) : Option (Int × Int × Int) := (spec_l1Cur_one.f k a0_0 a0_1 a0_2 30).bind fun (t6_1, t6_2, t6_3) => (if t6_1 = true then (spec_l1Cur_among.f k a0_0 t6_2 t6_3 ([(-1), 0, a1_0, 4611686018427387904] : List (Int))).bind fun (t11_1, t11_2, t11_3) => some (t11_1, t11_2, t11_3) else (spec_l1Least.f k a1_0 12).bind fun t15 => (spec_l1Most.f k t15 1).bind fun t16 => (spec_l1Cur_pick.f k a0_0 t6_2 t6_3 t16).bind fun (t17_1, t17_2, t17_3) => some (t17_1, t17_2, t17_3))

theorem spec_l1Cur_nodeOf.ok {k : Nat}  {a0_0 : List By} {a0_1 : Int} {a0_2 : Int} {a1_0 : Int} {a1_1 : List (Int × Int × Int)} {a1_2 : List Int} {r0 : Int} {r1 : Int} {r2 : Int} (h : spec_l1Cur_nodeOf.f k a0_0 a0_1 a0_2 a1_0 a1_1 a1_2 = some (r0, r1, r2)) (w : World) {pa0 : Nat} {va0_0 : Value} (hr_a0_0 : RdM w (footM [R.box pa0 100 [va0_0, .int .i64 a0_1, .int .u64 a0_2]]) va0_0 a0_0) {va1_1 : Value} (hr_a1_1 : RdM w (footM [R.box pa0 100 [va0_0, .int .i64 a0_1, .int .u64 a0_2]]) va1_1 a1_1) {va1_2 : Value} (hr_a1_2 : RdM w (footM [R.box pa0 100 [va0_0, .int .i64 a0_1, .int .u64 a0_2]]) va1_2 a1_2) (hw0 : Sep w (footM [R.box pa0 100 [va0_0, .int .i64 a0_1, .int .u64 a0_2]]) [R.box pa0 100 [va0_0, .int .i64 a0_1, .int .u64 a0_2]] w) :
  Calls Try.prog 133 ([.pointer (some ⟨pa0, 0, none⟩), .agg ([.int .i64 a1_0, va1_1, va1_2].toArray)] : List Value).toArray w (PostM (footM [R.box pa0 100 [va0_0, .int .i64 a0_1, .int .u64 a0_2]]) (fun u ns => u = .int .i64 r0 ∧ ns = [R.box pa0 100 [va0_0, .int .i64 r1, .int .u64 r2]]) w) := by
 unfold spec_l1Cur_nodeOf.f at h
 have hl_va0_0 := hr_a0_0.len
 have hl_va1_1 := hr_a1_1.len
 have hl_va1_2 := hr_a1_2.len
 refine Calls.of_tri (N := 18) Try.func133 rfl rfl rfl hw0 ?_
 refine Tri.seq (Tri.reg (l := [0, 1]) rfl ?_)
 refine F.mn rfl rfl rfl rfl (m_boxG rfl rfl) ?_
 rintro _ _ ⟨b3_1, rfl, rfl⟩
 refine F.qn rfl rfl rfl rfl (r_assign rfl) ?_
 refine F.nil (Nrm.seq (Tri.seq (Tri.seq ?_)))
 obtain ⟨⟨t6_1, t6_2, t6_3⟩, h6, h⟩ := bind_some h
 refine Tri.reg (l := [0, 1]) rfl ?_
 refine F.qn rfl rfl rfl rfl (r_move rfl) ?_
 refine F.efn rfl rfl rfl rfl (d_callM (xs := _) (cs := [R.box pa0 100 [va0_0, .int .i64 a0_1, .int .u64 a0_2]]) (rest := [R.box b3_1 27 [.int .i64 a1_0, va1_1, va1_2]]) [1] [0] rfl ok93 rfl rfl rfl rfl (fun w hw => spec_l1Cur_one.ok h6 w (hr_a0_0.down hw) (Sep.sub hw))) ?_
 rintro _ _ ⟨_, ⟨rfl, rfl⟩, rfl⟩
 refine F.nil (Nrm.seq (Tri.cond (b := t6_1) rfl (fun g_1 => ?_) (fun g_1 => ?_)))
 ·replace h := if_tt g_1 h
  refine Tri.seq ?_
  obtain ⟨⟨t11_1, t11_2, t11_3⟩, h11, h⟩ := bind_some h
  refine Tri.reg (l := [0, 1, 2, 3, 4, 5]) rfl ?_
  refine F.qn rfl rfl rfl rfl (r_move rfl) ?_
  refine F.qn rfl rfl rfl rfl (r_fieldAddr tf27_0 rfl) ?_
  refine F.qn rfl rfl rfl rfl (r_load ta3 rfl (fun w hw => cell_1 (box_cells (i := 1) rfl w hw) rfl)) ?_
  refine F.mn rfl rfl rfl rfl (m_buildF (l := ([(-1), 0, a1_0, 4611686018427387904] : List (Int))) Try.underlying25 ti3 rfl rfl rfl rfl rfl) ?_
  rintro v10_1 _ ⟨S10_1, hl_v10_1, rfl⟩
  refine F.efn rfl rfl rfl rfl (d_callM (xs := _) (cs := [R.box pa0 100 [va0_0, .int .i64 t6_2, .int .u64 t6_3]]) (rest := [R.sl S10_1 v10_1 (([(-1), 0, a1_0, 4611686018427387904] : List (Int)) : List (Int)), R.box b3_1 27 [.int .i64 a1_0, va1_1, va1_2]]) [1] [0, 2] rfl ok96 rfl rfl rfl rfl (fun w hw => spec_l1Cur_among.ok h11 w (hr_a0_0.down hw) (rdm_sl (i := 0) rfl hw) (Sep.sub hw))) ?_
  rintro _ _ ⟨_, ⟨rfl, rfl⟩, rfl⟩
  refine F.qn rfl rfl rfl rfl (r_assign rfl) ?_
  refine F.nil (Nrm.seq (Tri.ret ?_))
  refine Rtn.then ?_
  cases h
  exact Rtn.body (.tmp rfl .nil) (fun w hw => ⟨_, _, rfl, ⟨rfl, rfl⟩, Sep.pick (is := [0]) rfl rfl hw⟩)
 ·replace h := if_ff g_1 h
  refine Tri.skip (Nrm.seq (Tri.seq ?_))
  obtain ⟨t15, h15, h⟩ := bind_some h
  obtain ⟨t16, h16, h⟩ := bind_some h
  obtain ⟨⟨t17_1, t17_2, t17_3⟩, h17, h⟩ := bind_some h
  refine Tri.reg (l := [0, 1, 2, 3, 4, 5, 6]) rfl ?_
  refine F.qn rfl rfl rfl rfl (r_move rfl) ?_
  refine F.qn rfl rfl rfl rfl (r_fieldAddr tf27_0 rfl) ?_
  refine F.qn rfl rfl rfl rfl (r_load ta3 rfl (fun w hw => cell_1 (box_cells (i := 1) rfl w hw) rfl)) ?_
  refine F.qcn rfl rfl rfl rfl (q_callF (xs := _) rfl ok181 rfl rfl (fun w hw => spec_l1Least.ok h15 w )) ?_
  refine F.qcn rfl rfl rfl rfl (q_callF (xs := _) rfl ok180 rfl rfl (fun w hw => spec_l1Most.ok h16 w )) ?_
  refine F.efn rfl rfl rfl rfl (d_callM (xs := _) (cs := [R.box pa0 100 [va0_0, .int .i64 t6_2, .int .u64 t6_3]]) (rest := [R.box b3_1 27 [.int .i64 a1_0, va1_1, va1_2]]) [0] [1] rfl ok95 rfl rfl rfl rfl (fun w hw => spec_l1Cur_pick.ok h17 w (hr_a0_0.down hw) (Sep.sub hw))) ?_
  rintro _ _ ⟨_, ⟨rfl, rfl⟩, rfl⟩
  refine F.qn rfl rfl rfl rfl (r_assign rfl) ?_
  refine F.nil (Nrm.seq (Tri.ret ?_))
  cases h
  exact Rtn.body (.tmp rfl .nil) (fun w hw => ⟨_, _, rfl, ⟨rfl, rfl⟩, Sep.pick (is := [0]) rfl rfl hw⟩)


def spec_l1Cur_trapWalk.l0 (k : Nat) (a0_0 : List By) (a1_0 : Int) (a1_1 : List (Int × Int × Int)) (a1_2 : List Int) (a1_3 : List Int) : Nat → (List (Int)) → Int → Int → Int → Int → Option ((List (Int)) × Int × Int)
 | 0, _, _, _, _, _ => none
 | n + 1, x5, x6, x7, xpa0_1, xpa0_2 => (if (decide (x7 > 0)) = true then (spec_l11Step.f k a1_0 a1_1 a1_2 a1_3 (quo x6 64) (rem x6 64)).bind fun t32 => (if ((t32.length : Int) == 0) = true then some (x5, xpa0_1, xpa0_2) else (spec_l1Cur_pick.f k a0_0 xpa0_1 xpa0_2 (t32.length : Int)).bind fun (t40_1, t40_2, t40_3) => (rdl t32 t40_1).bind fun t41 => if (x5 ++ ([quo t41 64] : List (Int))).length < 1099511627776 then spec_l1Cur_trapWalk.l0 k a0_0 a1_0 a1_1 a1_2 a1_3 n (x5 ++ ([quo t41 64] : List (Int))) t41 (w64 (x7 - 1)) t40_2 t40_3 else none) else some (x5, xpa0_1, xpa0_2))

def spec_l1Cur_trapWalk.f (k : Nat) (a0_0 : List By) (a0_1 : Int) (a0_2 : Int) (a1_0 : Int) (a1_1 : List (Int × Int × Int)) (a1_2 : List Int) (a1_3 : List Int) : Option ((List Int) × Int × Int) := (spec_l11Trap.f k a1_0 a1_1 a1_2 a1_3).bind fun t11 => (if (!t11) = true then some (([0] : List (Int)), a0_1, a0_2) else (rdl a1_2 0).bind fun t17 => (spec_l4Id.f k 0 t17).bind fun t19 => (spec_l1Cur_among.f k a0_0 a0_1 a0_2 ([3, 5, 1, 8, 0] : List (Int))).bind fun (t22_1, t22_2, t22_3) => (spec_l1Cur_trapWalk.l0 k a0_0 a1_0 a1_1 a1_2 a1_3 k ([0] : List (Int)) t19 t22_1 t22_2 t22_3).bind fun (y5, ypa0_1, ypa0_2) => (spec_l1Cur_pick.f k a0_0 ypa0_1 ypa0_2 24).bind fun (t49_1, t49_2, t49_3) => ((if (t49_1 == 0) = true then (spec_l1Cur_pick.f k a0_0 t49_2 t49_3 (y5.length : Int)).bind fun (t56_1, t56_2, t56_3) => (spec_l1Cur_nodeOf.f k a0_0 t56_2 t56_3 a1_0 a1_1 a1_2).bind fun (t60_1, t60_2, t60_3) => (rdl y5 t56_1).bind fun t61 => some (y5.set t56_1.toNat t60_1, t60_2, t60_3) else ((if (t49_1 == 1) = true then (spec_l1Cur_pick.f k a0_0 t49_2 t49_3 a1_0).bind fun (t69_1, t69_2, t69_3) => if (y5 ++ ([t69_1] : List (Int))).length < 1099511627776 then some (y5 ++ ([t69_1] : List (Int)), t69_2, t69_3) else none else ((if (t49_1 == 2) = true then some ([] : List (Int)) else some y5)).bind fun y5r => some (y5r, t49_2, t49_3))).bind fun (y5r, ypa0_1r, ypa0_2r) => some (y5r, ypa0_1r, ypa0_2r))).bind fun (y5r, ypa0_1r, ypa0_2r) => some (y5r, ypa0_1r, ypa0_2r))

theorem spec_l1Cur_trapWalk.ok {k : Nat}  {a0_0 : List By} {a0_1 : Int} {a0_2 : Int} {a1_0 : Int} {a1_1 : List (Int × Int × Int)} {a1_2 : List Int} {a1_3 : List Int} {r0 : List Int} {r1 : Int} {r2 : Int} (h : spec_l1Cur_trapWalk.f k a0_0 a0_1 a0_2 a1_0 a1_1 a1_2 a1_3 = some (r0, r1, r2)) (w : World) {pa0 : Nat} {va0_0 : Value} (hr_a0_0 : RdM w (footM [R.box pa0 100 [va0_0, .int .i64 a0_1, .int .u64 a0_2]]) va0_0 a0_0) {va1_1 : Value} (hr_a1_1 : RdM w (footM [R.box pa0 100 [va0_0, .int .i64 a0_1, .int .u64 a0_2]]) va1_1 a1_1) {va1_2 : Value} (hr_a1_2 : RdM w (footM [R.box pa0 100 [va0_0, .int .i64 a0_1, .int .u64 a0_2]]) va1_2 a1_2) {va1_3 : Value} (hr_a1_3 : RdM w (footM [R.box pa0 100 [va0_0, .int .i64 a0_1, .int .u64 a0_2]]) va1_3 a1_3) (hw0 : Sep w (footM [R.box pa0 100 [va0_0, .int .i64 a0_1, .int .u64 a0_2]]) [R.box pa0 100 [va0_0, .int .i64 a0_1, .int .u64 a0_2]] w) :
  Calls Try.prog 185 ([.pointer (some ⟨pa0, 0, none⟩), .agg ([.int .i64 a1_0, va1_1, va1_2, va1_3].toArray)] : List Value).toArray w (PostM (footM [R.box pa0 100 [va0_0, .int .i64 a0_1, .int .u64 a0_2]]) (fun u ns => ∃ (Sr0 : Nat → Prop), SlLen u r0.length ∧ ns = [R.sl Sr0 u r0, R.box pa0 100 [va0_0, .int .i64 r1, .int .u64 r2]]) w) := by
 unfold spec_l1Cur_trapWalk.f at h
 have hl_va0_0 := hr_a0_0.len
 have hl_va1_1 := hr_a1_1.len
 have hl_va1_2 := hr_a1_2.len
 have hl_va1_3 := hr_a1_3.len
 refine Calls.of_tri (N := 76) Try.func185 rfl rfl rfl hw0 ?_
 refine Tri.seq (Tri.reg (l := [0, 1]) rfl ?_)
 refine F.mn rfl rfl rfl rfl (m_boxG rfl rfl) ?_
 rintro _ _ ⟨b3_1, rfl, rfl⟩
 refine F.qn rfl rfl rfl rfl (r_assign rfl) ?_
 refine F.nil (Nrm.seq (Tri.seq (Tri.reg (l := [0, 1]) rfl ?_)))
 refine F.mn rfl rfl rfl rfl (m_buildF (l := ([0] : List (Int))) Try.underlying25 ti3 rfl rfl rfl rfl rfl) ?_
 rintro v9_1 _ ⟨S9_1, hl_v9_1, rfl⟩
 refine F.qn rfl rfl rfl rfl (r_assign rfl) ?_
 refine F.nil (Nrm.seq (Tri.seq (Tri.seq ?_)))
 obtain ⟨t11, h11, h⟩ := bind_some h
 refine Tri.reg (l := [0, 1, 2]) rfl ?_
 refine F.qn rfl rfl rfl rfl (r_loadA ta66 ti66 rfl rfl (fun w hw => (box_cells (i := 1) rfl w hw))) ?_
 refine F.qcn rfl rfl rfl rfl (q_callF (xs := _) rfl ok131 rfl rfl (fun w hw => spec_l11Trap.ok h11 w ((fun _ hw => hr_a1_1.sep hw) w hw) ((fun _ hw => hr_a1_2.sep hw) w hw) ((fun _ hw => hr_a1_3.sep hw) w hw))) ?_
 refine F.qn rfl rfl rfl rfl (r_not rfl) ?_
 refine F.nil (Nrm.seq (Tri.cond (b := !t11) rfl (fun g_1 => ?_) (fun g_1 => ?_)))
 ·replace h := if_tt g_1 h
  refine Tri.seq (Tri.reg (l := [0, 1]) rfl ?_)
  refine F.qn rfl rfl rfl rfl (r_move rfl) ?_
  refine F.qn rfl rfl rfl rfl (r_assign rfl) ?_
  refine F.nil (Nrm.seq (Tri.ret ?_))
  refine Rtn.then ?_
  cases h
  exact Rtn.body (.tmp rfl .nil) (fun w hw => ⟨_, _, rfl, ⟨S9_1, hl_v9_1, rfl⟩, Sep.pick (is := [0, 2]) rfl rfl hw⟩)
 ·replace h := if_ff g_1 h
  refine Tri.skip (Nrm.seq (Tri.seq ?_))
  obtain ⟨t17, h17, h⟩ := bind_some h
  obtain ⟨t19, h19, h⟩ := bind_some h
  refine Tri.reg (l := [0, 1, 2, 3, 4, 5, 6]) rfl ?_
  refine F.qn rfl rfl rfl rfl (r_fieldAddr tf66_0 rfl) ?_
  refine F.qn rfl rfl rfl rfl (r_fieldAddr tf27_2 rfl) ?_
  refine F.qn rfl rfl rfl rfl (r_load ta25 rfl (fun w hw => cell_2 (box_cells (i := 1) rfl w hw) rfl)) ?_
  refine F.qn rfl rfl rfl rfl (r_indexAddrS Try.underlying25 ti3 rfl hl_va1_2 rfl (rdl_some h17).1 (rdl_some h17).2.1) ?_
  refine F.qn rfl rfl rfl rfl (r_load ta3 rfl (fun w hw => cell_0 (Rd.flat ((fun _ hw => hr_a1_2.sep hw) w hw) (rdl_some h17).2.2) rfl)) ?_
  refine F.qcn rfl rfl rfl rfl (q_callF (xs := _) rfl ok137 rfl rfl (fun w hw => spec_l4Id.ok h19 w )) ?_
  refine F.qn rfl rfl rfl rfl (r_assign rfl) ?_
  refine F.nil (Nrm.seq (Tri.seq (Tri.seq ?_)))
  obtain ⟨⟨t22_1, t22_2, t22_3⟩, h22, h⟩ := bind_some h
  refine Tri.reg (l := [0, 1, 2, 3]) rfl ?_
  refine F.qn rfl rfl rfl rfl (r_move rfl) ?_
  refine F.mn rfl rfl rfl rfl (m_buildF (l := ([3, 5, 1, 8, 0] : List (Int))) Try.underlying25 ti3 rfl rfl rfl rfl rfl) ?_
  rintro v21_1 _ ⟨S21_1, hl_v21_1, rfl⟩
  refine F.efn rfl rfl rfl rfl (d_callM (xs := _) (cs := [R.box pa0 100 [va0_0, .int .i64 a0_1, .int .u64 a0_2]]) (rest := [R.sl S21_1 v21_1 (([3, 5, 1, 8, 0] : List (Int)) : List (Int)), R.sl S9_1 v9_1 (([0] : List (Int)) : List (Int)), R.box b3_1 66 [.int .i64 a1_0, va1_1, va1_2, va1_3]]) [3] [0, 1, 2] rfl ok96 rfl rfl rfl rfl (fun w hw => spec_l1Cur_among.ok h22 w (hr_a0_0.down hw) (rdm_sl (i := 0) rfl hw) (Sep.sub hw))) ?_
  rintro _ _ ⟨_, ⟨rfl, rfl⟩, rfl⟩
  refine F.qn rfl rfl rfl rfl (r_assign rfl) ?_
  refine F.nil (Nrm.seq ?_)
  obtain ⟨⟨y5, ypa0_1, ypa0_2⟩, hE_1, h⟩ := bind_some h
  refine Tri.cut (fun e' C' => ∃ (v5_1 : Value) (S5_1 : Nat → Prop), SlLen v5_1 (y5).length ∧ e' = [(0, .pointer (some ⟨pa0, 0, none⟩)), (3, .pointer (some ⟨b3_1, 0, none⟩)), (5, v5_1)] ∧ C' = Sep w (footM [R.box pa0 100 [va0_0, .int .i64 a0_1, .int .u64 a0_2]]) [R.box pa0 100 [va0_0, .int .i64 ypa0_1, .int .u64 ypa0_2], R.box b3_1 66 [.int .i64 a1_0, va1_1, va1_2, va1_3], R.sl S5_1 v5_1 (y5 : List (Int))]) ?_ (fun hj_1 => ?_)
  ·rintro _ _ ⟨v5_1, S5_1, hl_v5_1, rfl, rfl⟩
   refine Nrm.seq (Tri.seq (Tri.seq ?_))
   obtain ⟨⟨t49_1, t49_2, t49_3⟩, h49, h⟩ := bind_some h
   refine Tri.reg (l := [0, 1]) rfl ?_
   refine F.qn rfl rfl rfl rfl (r_move rfl) ?_
   refine F.efn rfl rfl rfl rfl (d_callM (xs := _) (cs := [R.box pa0 100 [va0_0, .int .i64 ypa0_1, .int .u64 ypa0_2]]) (rest := [R.box b3_1 66 [.int .i64 a1_0, va1_1, va1_2, va1_3], R.sl S5_1 v5_1 (y5 : List (Int))]) [0] [1, 2] rfl ok95 rfl rfl rfl rfl (fun w hw => spec_l1Cur_pick.ok h49 w (hr_a0_0.down hw) (Sep.sub hw))) ?_
   rintro _ _ ⟨_, ⟨rfl, rfl⟩, rfl⟩
   refine F.nil (Nrm.seq (Tri.block ?_))
   refine Tri.seq (Tri.reg (l := [0, 1]) rfl ?_)
   refine F.qn rfl rfl rfl rfl (r_eql rfl rfl) ?_
   refine F.qn rfl rfl rfl rfl (r_assign rfl) ?_
   refine F.nil (Nrm.seq ?_)
   obtain ⟨⟨y5r, ypa0_1r, ypa0_2r⟩, hE_3, h⟩ := bind_some h
   refine Tri.cut (fun e' C' => ∃ (v5_2 : Value) (S5_2 : Nat → Prop), SlLen v5_2 (y5r).length ∧ e' = [(5, v5_2)] ∧ C' = Sep w (footM [R.box pa0 100 [va0_0, .int .i64 a0_1, .int .u64 a0_2]]) [R.box pa0 100 [va0_0, .int .i64 ypa0_1r, .int .u64 ypa0_2r], R.sl S5_2 v5_2 (y5r : List (Int))]) ?_ (fun hj_2 => ?_)
   ·rintro _ _ ⟨v5_2, S5_2, hl_v5_2, rfl, rfl⟩
    refine Nrm.block ?_
    refine Nrm.seq (Tri.seq (Tri.reg (l := [0, 1]) rfl ?_))
    refine F.qn rfl rfl rfl rfl (r_move rfl) ?_
    refine F.qn rfl rfl rfl rfl (r_assign rfl) ?_
    refine F.nil (Nrm.seq (Tri.ret ?_))
    cases h
    exact Rtn.body (.tmp rfl .nil) (fun w hw => ⟨_, _, rfl, ⟨S5_2, hl_v5_2, rfl⟩, Sep.pick (is := [1, 0]) rfl rfl hw⟩)
   ·refine Tri.cond (b := t49_1 == 0) rfl (fun g_4 => ?_) (fun g_4 => ?_)
    ·replace hE_3 := if_tt g_4 hE_3
     obtain ⟨⟨t56_1, t56_2, t56_3⟩, h56, hE_3⟩ := bind_some hE_3
     obtain ⟨⟨t60_1, t60_2, t60_3⟩, h60, hE_3⟩ := bind_some hE_3
     obtain ⟨t61, h61, hE_3⟩ := bind_some hE_3
     refine Tri.drawK (B := Sep w (footM [R.box pa0 100 [va0_0, .int .i64 a0_1, .int .u64 a0_2]]) [R.box b3_1 66 [.int .i64 a1_0, va1_1, va1_2, va1_3], R.sl S5_1 v5_1 (y5 : List (Int))]) mixedT Sep.up [(0, true), (1, true), (2, true), (3, true), (5, true), (6, true), (7, true), (4, false), (8, false)] [9, 10] (by kernel_rfl) ?_
     iterate 3 refine K.q [1, 2] rfl rfl rfl rfl rfl (wanted_none rfl) (r_move rfl) ?_
     refine K.q [1, 2] rfl rfl rfl rfl rfl (wanted_none rfl) (r_len Try.underlying25 rfl hl_v5_1) ?_
     refine K.q [1, 2] rfl rfl rfl rfl rfl (wanted_none rfl) (r_move rfl) ?_
     refine K.q [1, 2] rfl rfl rfl rfl rfl (wanted_none rfl) (r_fieldAddr tf66_0 rfl) ?_
     refine K.q [1, 2] rfl rfl rfl rfl rfl (wanted_none rfl) (r_loadA ta27 ti27 rfl rfl (fun w hw => cells_1 (cs' := [.int .i64 a1_0, va1_1, va1_2]) (box_cells (i := 0) rfl w hw) rfl)) ?_
     refine B.ef rfl rfl rfl (wanted_none rfl) (d_callM (xs := _) (cs := [R.box pa0 100 [va0_0, .int .i64 t49_2, .int .u64 t49_3]]) (rest := [R.box b3_1 66 [.int .i64 a1_0, va1_1, va1_2, va1_3], R.sl S5_1 v5_1 (y5 : List (Int))]) [0] [1, 2] rfl ok95 rfl rfl rfl rfl (fun w hw => spec_l1Cur_pick.ok h56 w (hr_a0_0.down hw) (Sep.sub hw))) (by rintro _ _ ⟨_, ⟨rfl, rfl⟩, rfl⟩; exact upd rfl [1, 2] rfl rfl) ?_
     rintro _ _ ⟨_, ⟨rfl, rfl⟩, rfl⟩
     refine B.ef rfl rfl rfl (wanted_none rfl) (d_callM (xs := _) (cs := [R.box pa0 100 [va0_0, .int .i64 t56_2, .int .u64 t56_3]]) (rest := [R.box b3_1 66 [.int .i64 a1_0, va1_1, va1_2, va1_3], R.sl S5_1 v5_1 (y5 : List (Int))]) [0] [1, 2] rfl ok133 rfl rfl rfl rfl (fun w hw => spec_l1Cur_nodeOf.ok h60 w (hr_a0_0.down hw) (hr_a1_1.down hw) (hr_a1_2.down hw) (Sep.sub hw))) (by rintro _ _ ⟨_, ⟨rfl, rfl⟩, rfl⟩; exact upd rfl [1, 2] rfl rfl) ?_
     rintro _ _ ⟨_, ⟨rfl, rfl⟩, rfl⟩
     refine B.nil ?_
     refine F.qn rfl rfl rfl rfl (r_indexAddrS Try.underlying25 ti3 rfl hl_v5_1 rfl (rdl_some h61).1 (rdl_some h61).2.1) ?_
     refine F.ef0 rfl rfl (wanted_none rfl) (d_storeE (i := 2) (x1 := t60_1) ti3 rfl rfl rfl (rdl_some h61) rfl) ?_
     rintro _ _ ⟨rfl, rfl⟩
     refine F.nil ?_
     cases hE_3
     refine Nrm.only [5] rfl ?_
     refine Nrm.pick [0, 2] rfl rfl ?_
     exact hj_2 _ _ ⟨v5_1, S5_1, (len_set hl_v5_1), rfl, rfl⟩
    ·replace hE_3 := if_ff g_4 hE_3
     refine Tri.seq (Tri.reg (l := [0, 1]) rfl ?_)
     refine F.qn rfl rfl rfl rfl (r_eql rfl rfl) ?_
     refine F.qn rfl rfl rfl rfl (r_assign rfl) ?_
     refine F.nil (Nrm.seq ?_)
     obtain ⟨⟨y5r, ypa0_1r, ypa0_2r⟩, hE_4, hE_3⟩ := bind_some hE_3
     refine Tri.cut (fun e' C' => ∃ (v5_3 : Value) (S5_3 : Nat → Prop), SlLen v5_3 (y5r).length ∧ e' = [(5, v5_3)] ∧ C' = Sep w (footM [R.box pa0 100 [va0_0, .int .i64 a0_1, .int .u64 a0_2]]) [R.box pa0 100 [va0_0, .int .i64 ypa0_1r, .int .u64 ypa0_2r], R.sl S5_3 v5_3 (y5r : List (Int))]) ?_ (fun hj_3 => ?_)
     ·rintro _ _ ⟨v5_3, S5_3, hl_v5_3, rfl, rfl⟩
      cases hE_3
      refine Nrm.only [5] rfl ?_
      refine Nrm.pick [0, 1] rfl rfl ?_
      exact hj_2 _ _ ⟨v5_3, S5_3, hl_v5_3, rfl, rfl⟩
     ·refine Tri.cond (b := t49_1 == 1) rfl (fun g_5 => ?_) (fun g_5 => ?_)
      ·replace hE_4 := if_tt g_5 hE_4
       obtain ⟨⟨t69_1, t69_2, t69_3⟩, h69, hE_4⟩ := bind_some hE_4
       obtain ⟨hs71, hE_4⟩ := ck hE_4
       refine Tri.reg (l := [0, 1, 2, 3, 4, 5, 6, 7, 8]) rfl ?_
       refine F.qn rfl rfl rfl rfl (r_move rfl) ?_
       refine F.qn rfl rfl rfl rfl (r_move rfl) ?_
       refine F.qn rfl rfl rfl rfl (r_fieldAddr tf66_0 rfl) ?_
       refine F.qn rfl rfl rfl rfl (r_fieldAddr tf27_0 rfl) ?_
       refine F.qn rfl rfl rfl rfl (r_load ta3 rfl (fun w hw => cell_2 (box_cells (i := 1) rfl w hw) rfl)) ?_
       refine F.efn rfl rfl rfl rfl (d_callM (xs := _) (cs := [R.box pa0 100 [va0_0, .int .i64 t49_2, .int .u64 t49_3]]) (rest := [R.box b3_1 66 [.int .i64 a1_0, va1_1, va1_2, va1_3], R.sl S5_1 v5_1 (y5 : List (Int))]) [0] [1, 2] rfl ok95 rfl rfl rfl rfl (fun w hw => spec_l1Cur_pick.ok h69 w (hr_a0_0.down hw) (Sep.sub hw))) ?_
       rintro _ _ ⟨_, ⟨rfl, rfl⟩, rfl⟩
       refine F.mn rfl rfl rfl rfl (m_buildF (l := ([t69_1] : List (Int))) Try.underlying25 ti3 rfl rfl rfl rfl rfl) ?_
       rintro v70_1 _ ⟨S70_1, hl_v70_1, rfl⟩
       refine F.efn rfl rfl rfl rfl (d_append (i := 3) Try.underlying25 Try.underlying25 ti3 rfl (by decide) rfl rfl rfl (rd_sl (i := 0) rfl) hs71) ?_
       rintro v71_1 _ ⟨S71_1, rfl, hl_v71_1⟩
       refine F.qn rfl rfl rfl rfl (r_assign rfl) ?_
       refine F.nil ?_
       cases hE_4
       refine Nrm.only [5] rfl ?_
       refine Nrm.pick [1, 3] rfl rfl ?_
       exact hj_3 _ _ ⟨v71_1, S71_1, hl_v71_1, rfl, rfl⟩
      ·replace hE_4 := if_ff g_5 hE_4
       refine Tri.seq (Tri.reg (l := [0, 1]) rfl ?_)
       refine F.qn rfl rfl rfl rfl (r_eql rfl rfl) ?_
       refine F.qn rfl rfl rfl rfl (r_assign rfl) ?_
       refine F.nil (Nrm.seq ?_)
       obtain ⟨y5r, hE_5, hE_4⟩ := bind_some hE_4
       refine Tri.cut (fun e' C' => ∃ (v5_4 : Value) (S5_4 : Nat → Prop), SlLen v5_4 (y5r).length ∧ e' = [(5, v5_4)] ∧ C' = Sep w (footM [R.box pa0 100 [va0_0, .int .i64 a0_1, .int .u64 a0_2]]) [R.box pa0 100 [va0_0, .int .i64 t49_2, .int .u64 t49_3], R.sl S5_4 v5_4 (y5r : List (Int))]) ?_ (fun hj_4 => ?_)
       ·rintro _ _ ⟨v5_4, S5_4, hl_v5_4, rfl, rfl⟩
        cases hE_4
        refine Nrm.only [5] rfl ?_
        refine Nrm.pick [0, 1] rfl rfl ?_
        exact hj_3 _ _ ⟨v5_4, S5_4, hl_v5_4, rfl, rfl⟩
       ·refine Tri.cond (b := t49_1 == 2) rfl (fun g_6 => ?_) (fun g_6 => ?_)
        ·replace hE_5 := if_tt g_6 hE_5
         refine Tri.reg (l := [0, 1]) rfl ?_
         refine F.mn rfl rfl rfl rfl (m_build0 (α := Int) Try.underlying25 ti3) ?_
         rintro v74_1 _ ⟨S74_1, hl_v74_1, rfl⟩
         refine F.qn rfl rfl rfl rfl (r_assign rfl) ?_
         refine F.nil ?_
         cases hE_5
         refine Nrm.only [5] rfl ?_
         refine Nrm.pick [1, 0] rfl rfl ?_
         exact hj_4 _ _ ⟨v74_1, S74_1, hl_v74_1, rfl, rfl⟩
        ·replace hE_5 := if_ff g_6 hE_5
         refine Tri.skip ?_
         cases hE_5
         refine Nrm.only [5] rfl ?_
         refine Nrm.pick [0, 2] rfl rfl ?_
         exact hj_4 _ _ ⟨v5_1, S5_1, hl_v5_1, rfl, rfl⟩
  ·refine Tri.block ?_
   refine Tri.only [0, 3, 5, 6, 7] rfl ?_
   refine Tri.pick [0, 3, 2] rfl rfl ?_
   refine Tri.rounds (fun n e' C' => ∃ (x5' : List (Int)) (x6' : Int) (x7' : Int) (xpa0_1' : Int) (xpa0_2' : Int) (w5 : Value) (T5 : Nat → Prop), spec_l1Cur_trapWalk.l0 k a0_0 a1_0 a1_1 a1_2 a1_3 n x5' x6' x7' xpa0_1' xpa0_2' = some (y5, ypa0_1, ypa0_2) ∧ SlLen w5 (x5').length ∧ e' = [(0, .pointer (some ⟨pa0, 0, none⟩)), (3, .pointer (some ⟨b3_1, 0, none⟩)), (5, w5), (6, .int .i64 x6'), (7, .int .i64 x7')] ∧ C' = Sep w (footM [R.box pa0 100 [va0_0, .int .i64 a0_1, .int .u64 a0_2]]) [R.box pa0 100 [va0_0, .int .i64 xpa0_1', .int .u64 xpa0_2'], R.box b3_1 66 [.int .i64 a1_0, va1_1, va1_2, va1_3], R.sl T5 w5 (x5' : List (Int))]) k ?_ ?_ ?_
   ·exact ⟨([0] : List (Int)), t19, t22_1, t22_2, t22_3, v9_1, S9_1, hE_1, hl_v9_1, rfl, rfl⟩
   ·rintro _ _ ⟨_, _, _, _, _, _, _, hE_2, _⟩
    rw [spec_l1Cur_trapWalk.l0.eq_1] at hE_2; cases hE_2
   ·rintro n_1 _ _ ⟨x5, x6, x7, xpa0_1, xpa0_2, w5, T5, hE_2, hl_w5, rfl, rfl⟩ ih_1
    rw [spec_l1Cur_trapWalk.l0.eq_2] at hE_2
    refine Tri.seq (Tri.seq (Tri.reg (l := [0, 1]) rfl ?_))
    refine F.qn rfl rfl rfl rfl (r_move rfl) ?_
    refine F.qn rfl rfl rfl rfl (r_gtr rfl rfl) ?_
    refine F.nil (Nrm.seq (Tri.cond (b := decide (x7 > 0)) rfl (fun g_2 => ?_) (fun g_2 => ?_)))
    ·replace hE_2 := if_tt g_2 hE_2
     refine Tri.skip (Nrm.seq (Tri.seq (Tri.block ?_)))
     refine Tri.seq ?_
     obtain ⟨t32, h32, hE_2⟩ := bind_some hE_2
     refine Tri.reg (l := [0, 1, 2, 3, 4, 5, 6]) rfl ?_
     refine F.qn rfl rfl rfl rfl (r_loadA ta66 ti66 rfl rfl (fun w hw => (box_cells (i := 1) rfl w hw))) ?_
     refine F.qn rfl rfl rfl rfl (r_move rfl) ?_
     refine F.qn rfl rfl rfl rfl (r_quo rfl rfl (by decide)) ?_
     refine F.qn rfl rfl rfl rfl (r_move rfl) ?_
     refine F.qn rfl rfl rfl rfl (r_rem rfl rfl (by decide)) ?_
     refine F.mn rfl rfl rfl rfl (m_callF (xs := _) rfl ok128 rfl rfl (fun w hw => spec_l11Step.ok h32 w ((fun _ hw => hr_a1_1.sep hw) w hw) ((fun _ hw => hr_a1_2.sep hw) w hw) ((fun _ hw => hr_a1_3.sep hw) w hw))) ?_
     rintro v32_1 _ ⟨_, ⟨S32_1, hl_v32_1, rfl⟩, rfl⟩
     refine F.qn rfl rfl rfl rfl (r_assign rfl) ?_
     refine F.nil (Nrm.seq (Tri.seq (Tri.seq (Tri.reg (l := [0, 1, 2]) rfl ?_))))
     refine F.qn rfl rfl rfl rfl (r_move rfl) ?_
     refine F.qn rfl rfl rfl rfl (r_len Try.underlying25 rfl hl_v32_1) ?_
     refine F.qn rfl rfl rfl rfl (r_eql rfl rfl) ?_
     refine F.nil (Nrm.seq (Tri.cond (b := (t32.length : Int) == 0) rfl (fun g_3 => ?_) (fun g_3 => ?_)))
     ·replace hE_2 := if_tt g_3 hE_2
      refine Tri.exit ?_
      refine Exi.then ?_
      refine Exi.other rfl ?_
      refine Exi.then ?_
      refine Exi.then ?_
      refine Exi.same ?_
      cases hE_2
      refine Nrm.only [0, 3, 5] rfl ?_
      refine Nrm.pick [1, 2, 3] rfl rfl ?_
      exact hj_1 _ _ ⟨w5, T5, hl_w5, rfl, rfl⟩
     ·replace hE_2 := if_ff g_3 hE_2
      refine Tri.skip (Nrm.seq (Tri.seq ?_))
      obtain ⟨⟨t40_1, t40_2, t40_3⟩, h40, hE_2⟩ := bind_some hE_2
      obtain ⟨t41, h41, hE_2⟩ := bind_some hE_2
      refine Tri.reg (l := [0, 1, 2, 3, 4, 5, 6, 7]) rfl ?_
      iterate 3 refine F.qn rfl rfl rfl rfl (r_move rfl) ?_
      refine F.qn rfl rfl rfl rfl (r_len Try.underlying25 rfl hl_v32_1) ?_
      refine F.efn rfl rfl rfl rfl (d_callM (xs := _) (cs := [R.box pa0 100 [va0_0, .int .i64 xpa0_1, .int .u64 xpa0_2]]) (rest := [R.sl S32_1 v32_1 (t32 : List (Int)), R.box b3_1 66 [.int .i64 a1_0, va1_1, va1_2, va1_3], R.sl T5 w5 (x5 : List (Int))]) [1] [0, 2, 3] rfl ok95 rfl rfl rfl rfl (fun w hw => spec_l1Cur_pick.ok h40 w (hr_a0_0.down hw) (Sep.sub hw))) ?_
      rintro _ _ ⟨_, ⟨rfl, rfl⟩, rfl⟩
      refine F.qn rfl rfl rfl rfl (r_indexAddrS Try.underlying25 ti3 rfl hl_v32_1 rfl (rdl_some h41).1 (rdl_some h41).2.1) ?_
      refine F.qn rfl rfl rfl rfl (r_load ta3 rfl (fun w hw => cell_0 (Rd.flat ((rd_sl (i := 1) rfl) w hw) (rdl_some h41).2.2) rfl)) ?_
      refine F.qn rfl rfl rfl rfl (r_assign rfl) ?_
      refine F.nil (Nrm.seq ?_)
      obtain ⟨hs47, hE_2⟩ := ck hE_2
      refine Tri.reg (l := [0, 1, 2, 3, 4, 5]) rfl ?_
      refine F.qn rfl rfl rfl rfl (r_move rfl) ?_
      refine F.qn rfl rfl rfl rfl (r_move rfl) ?_
      refine F.qn rfl rfl rfl rfl (r_quo rfl rfl (by decide)) ?_
      refine F.mn rfl rfl rfl rfl (m_buildF (l := ([quo t41 64] : List (Int))) Try.underlying25 ti3 rfl rfl rfl rfl rfl) ?_
      rintro v46_1 _ ⟨S46_1, hl_v46_1, rfl⟩
      refine F.efn rfl rfl rfl rfl (d_append (i := 4) Try.underlying25 Try.underlying25 ti3 rfl (by decide) rfl rfl rfl (rd_sl (i := 0) rfl) hs47) ?_
      rintro v47_1 _ ⟨S47_1, rfl, hl_v47_1⟩
      refine F.qn rfl rfl rfl rfl (r_assign rfl) ?_
      refine F.nil (Nrm.block ?_)
      refine Nrm.seq (Tri.reg (l := [0, 1, 2]) rfl ?_)
      refine F.qn rfl rfl rfl rfl (r_move rfl) ?_
      refine F.qn rfl rfl rfl rfl (r_sub rfl rfl) ?_
      refine F.qn rfl rfl rfl rfl (r_assign rfl) ?_
      refine F.nil (Nrm.round ?_)
      refine Rnd.only [0, 3, 5, 6, 7] rfl ?_
      refine Rnd.pick [1, 3, 4] rfl rfl ?_
      exact ih_1 _ _ ⟨x5 ++ ([quo t41 64] : List (Int)), t41, w64 (x7 - 1), t40_2, t40_3, v47_1, S47_1, hE_2, hl_v47_1, rfl, rfl⟩
    ·replace hE_2 := if_ff g_2 hE_2
     refine Tri.exit ?_
     refine Exi.then ?_
     refine Exi.then ?_
     refine Exi.same ?_
     cases hE_2
     refine Nrm.only [0, 3, 5] rfl ?_
     refine Nrm.pick [0, 1, 2] rfl rfl ?_
     exact hj_1 _ _ ⟨w5, T5, hl_w5, rfl, rfl⟩


def spec_DrawIsTrapWalk.f (k : Nat) (a0 : List By) : Option (Int × (List (Int × Int × Int)) × (List Int) × (List Int) × (List Int)) := (spec_l1Cur_trap.f k a0 0 0).bind fun (t10_1, t10_2, t10_3, t10_4, t10_5, t10_6) => (spec_l1Cur_trapWalk.f k a0 t10_5 t10_6 t10_1 t10_2 t10_3 t10_4).bind fun (t14_1, t14_2, t14_3) => some (t10_1, t10_2, t10_3, t10_4, t14_1)

theorem spec_DrawIsTrapWalk.ok {k : Nat}  {a0 : List By} {r0 : Int} {r1 : List (Int × Int × Int)} {r2 : List Int} {r3 : List Int} {r4 : List Int} (h : spec_DrawIsTrapWalk.f k a0 = some (r0, r1, r2, r3, r4)) (w : World) {va0 : Value} (hr_a0 : Rd w va0 a0) :
  Calls Try.prog 121 ([va0] : List Value).toArray w (Post (fun u ns => ∃ (ur1 : Value) (Sr1 : Nat → Prop) (ur2 : Value) (Sr2 : Nat → Prop) (ur3 : Value) (Sr3 : Nat → Prop) (ur4 : Value) (Sr4 : Nat → Prop), u = .tuple #[.agg [.int .i64 r0, ur1, ur2, ur3].toArray, ur4] ∧ SlLen ur1 r1.length ∧ SlLen ur2 r2.length ∧ SlLen ur3 r3.length ∧ SlLen ur4 r4.length ∧ ns = [R.sl Sr1 ur1 r1, R.sl Sr2 ur2 r2, R.sl Sr3 ur3 r3, R.sl Sr4 ur4 r4]) w) := by
 unfold spec_DrawIsTrapWalk.f at h
 have hl_va0 := hr_a0.len
 refine Calls.of_tri (N := 15) Try.func121 rfl rfl rfl (Sep.nil (M := noM)) ?_
 refine Tri.seq (Tri.reg (l := [0, 1]) rfl ?_)
 refine F.mn rfl rfl rfl rfl (m_alloc ti66) ?_
 rintro _ _ ⟨b2_1, rfl, rfl⟩
 refine F.qn rfl rfl rfl rfl (r_assign rfl) ?_
 refine F.nil (Nrm.seq (Tri.seq (Tri.reg (l := [0, 1, 2, 3]) rfl ?_)))
 refine F.qn rfl rfl rfl rfl (r_move rfl) ?_
 refine F.qn rfl rfl rfl rfl (r_build (pl := [(0, 1), (1, 1), (2, 1)]) (qs := [(0, [va0])]) (cs := [va0, .int .i64 0, .int .u64 0]) (by kernel_rfl) ti100 rfl (.cons (sl_cells hl_va0) rfl (Nat.le_of_ble_eq_true rfl) .nil) rfl rfl) ?_
 refine F.mn rfl rfl rfl rfl (m_boxG rfl rfl) ?_
 rintro _ _ ⟨b8_1, rfl, rfl⟩
 refine F.qn rfl rfl rfl rfl (r_assign rfl) ?_
 refine F.nil (Nrm.seq (Tri.seq ?_))
 obtain ⟨⟨t10_1, t10_2, t10_3, t10_4, t10_5, t10_6⟩, h10, h⟩ := bind_some h
 refine Tri.reg (l := [0, 1, 2, 3]) rfl ?_
 refine F.qn rfl rfl rfl rfl (r_move rfl) ?_
 refine F.efn rfl rfl rfl rfl (d_callM (xs := _) (cs := [R.box b8_1 100 [va0, .int .i64 0, .int .u64 0]]) (rest := [R.box b2_1 66 [.int .i64 0, .slice none 0 0, .slice none 0 0, .slice none 0 0]]) [0] [1] rfl ok132 rfl rfl rfl rfl (fun w hw => spec_l1Cur_trap.ok h10 w (hr_a0.down hw) (Sep.sub hw))) ?_
 rintro _ _ ⟨_, ⟨v10_1, S10_1, v10_2, S10_2, v10_3, S10_3, rfl, hl_v10_1, hl_v10_2, hl_v10_3, rfl⟩, rfl⟩
 refine F.mn rfl rfl rfl rfl (m_alloc ti66) ?_
 rintro _ _ ⟨b5_1, rfl, rfl⟩
 refine F.ef0 rfl rfl (wanted_none rfl) (d_storeG0 (i := 0) (cs2 := [.int .i64 t10_1, v10_1, v10_2, v10_3]) ti66 rfl rfl rfl rfl rfl (Nat.le_of_ble_eq_true rfl) (lf_cons rfl (lf_cons (sl_leaf hl_v10_1) (lf_cons (sl_leaf hl_v10_2) (lf_cons (sl_leaf hl_v10_3) lf_nil))))) ?_
 rintro _ _ ⟨rfl, rfl⟩
 refine F.nil (Nrm.seq (Tri.seq ?_))
 obtain ⟨⟨t14_1, t14_2, t14_3⟩, h14, h⟩ := bind_some h
 refine Tri.drawK (B := Sep w noM [R.box b5_1 66 [.int .i64 t10_1, v10_1, v10_2, v10_3], R.sl S10_1 v10_1 (t10_2 : List (Int × Int × Int)), R.sl S10_2 v10_2 (t10_3 : List (Int)), R.sl S10_3 v10_3 (t10_4 : List (Int)), R.box b2_1 66 [.int .i64 0, .slice none 0 0, .slice none 0 0, .slice none 0 0]]) mixedT Sep.up [(0, true), (1, true), (2, true), (3, false)] [4, 5] (by kernel_rfl) ?_
 refine K.q [0, 1, 2, 3, 5] rfl rfl rfl rfl rfl (wanted_none rfl) (r_loadA ta66 ti66 rfl rfl (fun w hw => (box_cells (i := 0) rfl w hw))) ?_
 refine K.q [0, 1, 2, 3, 5] rfl rfl rfl rfl rfl (wanted_none rfl) (r_move rfl) ?_
 refine K.q [0, 1, 2, 3, 5] rfl rfl rfl rfl rfl (wanted_none rfl) (r_loadA ta66 ti66 rfl rfl (fun w hw => (box_cells (i := 0) rfl w hw))) ?_
 refine B.ef rfl rfl rfl (wanted_none rfl) (d_callM (xs := _) (cs := [R.box b8_1 100 [va0, .int .i64 t10_5, .int .u64 t10_6]]) (rest := [R.box b5_1 66 [.int .i64 t10_1, v10_1, v10_2, v10_3], R.sl S10_1 v10_1 (t10_2 : List (Int × Int × Int)), R.sl S10_2 v10_2 (t10_3 : List (Int)), R.sl S10_3 v10_3 (t10_4 : List (Int)), R.box b2_1 66 [.int .i64 0, .slice none 0 0, .slice none 0 0, .slice none 0 0]]) [4] [0, 1, 2, 3, 5] rfl ok185 rfl rfl rfl rfl (fun w hw => spec_l1Cur_trapWalk.ok h14 w (hr_a0.down hw) (rdm_sl (i := 1) rfl hw) (rdm_sl (i := 2) rfl hw) (rdm_sl (i := 3) rfl hw) (Sep.sub hw))) (by rintro v14_2 _ ⟨_, ⟨S14_2, hl_v14_2, rfl⟩, rfl⟩; exact upd rfl [2, 3, 4, 5, 6] rfl rfl) ?_
 rintro v14_2 _ ⟨_, ⟨S14_2, hl_v14_2, rfl⟩, rfl⟩
 refine B.nil ?_
 refine F.ef0 rfl rfl (wanted_none rfl) (d_storeG0 (i := 6) (cs2 := [.int .i64 t10_1, v10_1, v10_2, v10_3]) ti66 rfl rfl rfl rfl rfl (Nat.le_of_ble_eq_true rfl) (lf_cons rfl (lf_cons (sl_leaf hl_v10_1) (lf_cons (sl_leaf hl_v10_2) (lf_cons (sl_leaf hl_v10_3) lf_nil))))) ?_
 rintro _ _ ⟨rfl, rfl⟩
 refine F.qn rfl rfl rfl rfl (r_assign rfl) ?_
 refine F.nil (Nrm.seq (Tri.ret ?_))
 cases h
 exact Rtn.body (.cell rfl ta66 ti66 rfl (fun _ hw => box_cells (i := 6) rfl _ hw) (.tmp rfl .nil)) (fun w hw => ⟨_, _, rfl, ⟨v10_1, S10_1, v10_2, S10_2, v10_3, S10_3, v14_2, S14_2, rfl, hl_v10_1, hl_v10_2, hl_v10_3, hl_v14_2, rfl⟩, Sep.pick (is := [3, 4, 5, 0]) rfl rfl hw⟩)


def spec_DrawGoodSteps.f (k : Nat) (a0 : List By) : Option (Int × (List (Int × Int × Int)) × (List Int) × (List Int) × (List Int)) := (spec_DrawIsTrapWalk.f k a0).bind fun (t5_1, t5_2, t5_3, t5_4, t5_5) => some (t5_1, t5_2, t5_3, t5_4, t5_5)

theorem spec_DrawGoodSteps.ok {k : Nat}  {a0 : List By} {r0 : Int} {r1 : List (Int × Int × Int)} {r2 : List Int} {r3 : List Int} {r4 : List Int} (h : spec_DrawGoodSteps.f k a0 = some (r0, r1, r2, r3, r4)) (w : World) {va0 : Value} (hr_a0 : Rd w va0 a0) :
  Calls Try.prog 48 ([va0] : List Value).toArray w (Post (fun u ns => ∃ (ur1 : Value) (Sr1 : Nat → Prop) (ur2 : Value) (Sr2 : Nat → Prop) (ur3 : Value) (Sr3 : Nat → Prop) (ur4 : Value) (Sr4 : Nat → Prop), u = .tuple #[.agg [.int .i64 r0, ur1, ur2, ur3].toArray, ur4] ∧ SlLen ur1 r1.length ∧ SlLen ur2 r2.length ∧ SlLen ur3 r3.length ∧ SlLen ur4 r4.length ∧ ns = [R.sl Sr1 ur1 r1, R.sl Sr2 ur2 r2, R.sl Sr3 ur3 r3, R.sl Sr4 ur4 r4]) w) := by
 unfold spec_DrawGoodSteps.f at h
 have hl_va0 := hr_a0.len
 refine Calls.of_tri (N := 8) Try.func48 rfl rfl rfl (Sep.nil (M := noM)) ?_
 refine Tri.seq (Tri.reg (l := [0, 1]) rfl ?_)
 refine F.mn rfl rfl rfl rfl (m_alloc ti66) ?_
 rintro _ _ ⟨b2_1, rfl, rfl⟩
 refine F.qn rfl rfl rfl rfl (r_assign rfl) ?_
 refine F.nil (Nrm.seq (Tri.seq ?_))
 obtain ⟨⟨t5_1, t5_2, t5_3, t5_4, t5_5⟩, h5, h⟩ := bind_some h
 refine Tri.reg (l := [0, 1, 2, 3, 4, 5]) rfl ?_
 refine F.qn rfl rfl rfl rfl (r_move rfl) ?_
 refine F.mn rfl rfl rfl rfl (m_callF (xs := _) rfl ok121 rfl rfl (fun w hw => spec_DrawIsTrapWalk.ok h5 w ((fun _ hw => hr_a0.sep hw) w hw))) ?_
 rintro _ _ ⟨_, ⟨v5_1, S5_1, v5_2, S5_2, v5_3, S5_3, v5_4, S5_4, rfl, hl_v5_1, hl_v5_2, hl_v5_3, hl_v5_4, rfl⟩, rfl⟩
 refine F.qn rfl rfl rfl rfl (r_extract rfl rfl) ?_
 refine F.qn rfl rfl rfl rfl (r_extract rfl rfl) ?_
 refine F.ef0 rfl rfl (wanted_none rfl) (d_storeG0 (i := 4) (cs2 := [.int .i64 t5_1, v5_1, v5_2, v5_3]) ti66 rfl rfl rfl rfl rfl (Nat.le_of_ble_eq_true rfl) (lf_cons rfl (lf_cons (sl_leaf hl_v5_1) (lf_cons (sl_leaf hl_v5_2) (lf_cons (sl_leaf hl_v5_3) lf_nil))))) ?_
 rintro _ _ ⟨rfl, rfl⟩
 refine F.qn rfl rfl rfl rfl (r_assign rfl) ?_
 refine F.nil (Nrm.seq (Tri.ret ?_))
 cases h
 exact Rtn.body (.cell rfl ta66 ti66 rfl (fun _ hw => box_cells (i := 4) rfl _ hw) (.tmp rfl .nil)) (fun w hw => ⟨_, _, rfl, ⟨v5_1, S5_1, v5_2, S5_2, v5_3, S5_3, v5_4, S5_4, rfl, hl_v5_1, hl_v5_2, hl_v5_3, hl_v5_4, rfl⟩, Sep.pick (is := [0, 1, 2, 3]) rfl rfl hw⟩)


def impl_within.f (k : Nat) (a0 : Int) (a1 : Int) (a2 : Int) : Option (Bool) := ((if (decide (a1 ≤ a0)) = true then some (decide (a0 ≤ a2)) else some false)).bind fun y6 => some y6

theorem impl_within.ok {k : Nat}  {a0 : Int} {a1 : Int} {a2 : Int} {r0 : Bool} (h : impl_within.f k a0 a1 a2 = some r0) (w : World) :
  Calls Try.prog 149 ([.int .i64 a0, .int .i64 a1, .int .i64 a2] : List Value).toArray w (fun e w' => e = .returned (.bool r0) ∧ Ext w w') := by
 unfold impl_within.f at h
 refine Calls.of_tri (N := 15) Try.func149 rfl rfl rfl (Sep.nil (M := noM)) ?_
 refine Tri.seq (Tri.reg (l := [0]) rfl ?_)
 refine F.qn rfl rfl rfl rfl (r_assign rfl) ?_
 refine F.nil (Nrm.seq (Tri.seq ?_))
 obtain ⟨y6, hE_1, h⟩ := bind_some h
 refine Tri.cut (fun e' C' => e' = [(6, .bool y6)] ∧ C' = Sep w noM []) ?_ (fun hj_1 => ?_)
 ·rintro _ _ ⟨rfl, rfl⟩
  refine Nrm.seq (Tri.ret ?_)
  cases h
  exact Rtn.body (.tmp rfl .nil) (fun w hw => ⟨rfl, hw.ext⟩)
 ·rcases Bool.eq_false_or_eq_true (decide (a1 ≤ a0)) with g10 | g10
  ·replace hE_1 := if_tt g10 hE_1
   refine Tri.reg (l := [0, 1, 2, 3, 4, 5, 6, 7, 8]) rfl ?_
   refine F.qn rfl rfl rfl rfl (r_move rfl) ?_
   refine F.qn rfl rfl rfl rfl (r_move rfl) ?_
   refine F.qn rfl rfl rfl rfl (r_leq rfl rfl) ?_
   refine F.qn rfl rfl rfl rfl (r_move rfl) ?_
   refine F.qg rfl rfl rfl rfl rfl rfl g10 (r_move rfl) ?_
   refine F.qg rfl rfl rfl rfl rfl rfl g10 (r_move rfl) ?_
   refine F.qg rfl rfl rfl rfl rfl rfl g10 (r_leq rfl rfl) ?_
   refine F.qn rfl rfl rfl rfl (r_pick rfl rfl g10) ?_
   refine F.qn rfl rfl rfl rfl (r_assign rfl) ?_
   refine F.nil ?_
   cases hE_1
   refine Nrm.only [6] rfl ?_
   refine Nrm.pick [] rfl rfl ?_
   exact hj_1 _ _ ⟨rfl, rfl⟩
  ·replace hE_1 := if_ff g10 hE_1
   refine Tri.reg (l := [0, 1, 2, 3, 4, 5, 6, 7, 8]) rfl ?_
   refine F.qn rfl rfl rfl rfl (r_move rfl) ?_
   refine F.qn rfl rfl rfl rfl (r_move rfl) ?_
   refine F.qn rfl rfl rfl rfl (r_leq rfl rfl) ?_
   refine F.qn rfl rfl rfl rfl (r_move rfl) ?_
   iterate 3 refine F.sk rfl rfl rfl (wf rfl rfl rfl g10) ?_
   refine F.qn rfl rfl rfl rfl (r_pickf rfl rfl g10) ?_
   refine F.qn rfl rfl rfl rfl (r_assign rfl) ?_
   refine F.nil ?_
   cases hE_1
   refine Nrm.only [6] rfl ?_
   refine Nrm.pick [] rfl rfl ?_
   exact hj_1 _ _ ⟨rfl, rfl⟩


def impl_isSet.f (k : Nat) (a0 : Int) : Option (Bool) := (impl_within.f k a0 0 63).bind fun t4 => some t4

theorem impl_isSet.ok {k : Nat}  {a0 : Int} {r0 : Bool} (h : impl_isSet.f k a0 = some r0) (w : World) :
  Calls Try.prog 101 ([.int .i64 a0] : List Value).toArray w (fun e w' => e = .returned (.bool r0) ∧ Ext w w') := by
 unfold impl_isSet.f at h
 refine Calls.of_tri (N := 5) Try.func101 rfl rfl rfl (Sep.nil (M := noM)) ?_
 refine Tri.seq (Tri.reg (l := [0]) rfl ?_)
 refine F.qn rfl rfl rfl rfl (r_assign rfl) ?_
 refine F.nil (Nrm.seq (Tri.seq ?_))
 obtain ⟨t4, h4, h⟩ := bind_some h
 refine Tri.reg (l := [0, 1, 2]) rfl ?_
 refine F.qn rfl rfl rfl rfl (r_move rfl) ?_
 refine F.qcn rfl rfl rfl rfl (q_callF (xs := _) rfl ok149 rfl rfl (fun w hw => impl_within.ok h4 w )) ?_
 refine F.qn rfl rfl rfl rfl (r_assign rfl) ?_
 refine F.nil (Nrm.seq (Tri.ret ?_))
 cases h
 exact Rtn.body (.tmp rfl .nil) (fun w hw => ⟨rfl, hw.ext⟩)


def slices_IndexFunc_int_int.l0 (k : Nat) (a0 : List Int) (a1 : (Int → Option (Bool))) : Nat → Int → Option ((Unit) ⊕ (Int))
 | 0, _ => none
 | n + 1, x8 => (if (decide (x8 < (a0.length : Int))) = true then (rdl a0 x8).bind fun t14 => (a1 t14).bind fun t16 => (if t16 = true then some (Sum.inr x8) else slices_IndexFunc_int_int.l0 k a0 a1 n (w64 (x8 + 1))) else some (Sum.inl ()))

def slices_IndexFunc_int_int.f (k : Nat) (a0 : List Int) (a1 : (Int → Option (Bool))) : Option (Int) := (slices_IndexFunc_int_int.l0 k a0 a1 k 0).bind fun s => Lr s some fun _ => some (-1)

theorem slices_IndexFunc_int_int.ok {k : Nat}  {a0 : List Int} {a1 : (Int → Option (Bool))} {r0 : Int} (h : slices_IndexFunc_int_int.f k a0 a1 = some r0) (w : World) {va0 : Value} (hr_a0 : Rd w va0 a0) {fi_a1 : FuncId} {ca_a1 : Array Value} (ho_a1 : CallOk Try.prog fi_a1) (hf_a1 : ∀ w2, Ext w w2 → ∀ (z0 : Int) (y : Bool), a1 z0 = some y → Calls Try.prog fi_a1 (([.int .i64 z0] : List Value) ++ ca_a1.toList).toArray w2 (fun e w3 => e = .returned (.bool y) ∧ Ext w2 w3)) :
  Calls Try.prog 188 ([va0, .func (.func fi_a1) #[] ca_a1] : List Value).toArray w (fun e w' => e = .returned (.int .i64 r0) ∧ Ext w w') := by
 unfold slices_IndexFunc_int_int.f at h
 have hl_va0 := hr_a0.len
 refine Calls.of_tri (N := 19) Try.func188 rfl rfl rfl (Sep.nil (M := noM)) ?_
 refine Tri.seq (Tri.reg (l := [0]) rfl ?_)
 refine F.qn rfl rfl rfl rfl (r_assign rfl) ?_
 refine F.nil (Nrm.seq (Tri.seq (Tri.seq (Tri.reg (l := [0, 1, 2]) rfl ?_))))
 refine F.qn rfl rfl rfl rfl (r_move rfl) ?_
 refine F.qn rfl rfl rfl rfl (r_len Try.underlying25 rfl hl_va0) ?_
 refine F.qn rfl rfl rfl rfl (r_move rfl) ?_
 refine F.nil (Nrm.seq ?_)
 obtain ⟨s0, hE_1, h⟩ := bind_some h
 refine Tri.block ?_
 refine Tri.only [0, 1, 7, 8] rfl ?_
 refine Tri.pick [] rfl rfl ?_
 refine Tri.rounds (fun n e' C' => ∃ (x8' : Int), slices_IndexFunc_int_int.l0 k a0 a1 n x8' = some s0 ∧ e' = [(0, va0), (1, .func (.func fi_a1) #[] ca_a1), (7, .int .i64 (a0.length : Int)), (8, .int .i64 x8')] ∧ C' = Sep w noM []) k ?_ ?_ ?_
 ·exact ⟨0, hE_1, rfl, rfl⟩
 ·rintro _ _ ⟨_, hE_1, _⟩
  rw [slices_IndexFunc_int_int.l0.eq_1] at hE_1; cases hE_1
 ·rintro n_1 _ _ ⟨x8, hE_1, rfl, rfl⟩ ih_1
  rw [slices_IndexFunc_int_int.l0.eq_2] at hE_1
  refine Tri.seq (Tri.reg (l := [0]) rfl ?_)
  refine F.qn rfl rfl rfl rfl (r_lss rfl rfl) ?_
  refine F.nil (Nrm.seq (Tri.seq (Tri.cond (b := decide (x8 < (a0.length : Int))) rfl (fun g_1 => ?_) (fun g_1 => ?_))))
  ·replace hE_1 := if_tt g_1 hE_1
   refine Tri.skip (Nrm.seq (Tri.seq (Tri.block ?_)))
   refine Tri.seq (Tri.reg (l := [0, 1]) rfl ?_)
   refine F.qn rfl rfl rfl rfl (r_move rfl) ?_
   refine F.qn rfl rfl rfl rfl (r_assign rfl) ?_
   refine F.nil (Nrm.seq (Tri.seq ?_))
   obtain ⟨t14, h14, hE_1⟩ := bind_some hE_1
   obtain ⟨t16, h16, hE_1⟩ := bind_some hE_1
   refine Tri.reg (l := [0, 1, 2, 3, 4, 5]) rfl ?_
   iterate 3 refine F.qn rfl rfl rfl rfl (r_move rfl) ?_
   refine F.qn rfl rfl rfl rfl (r_indexAddrS Try.underlying25 ti3 rfl hl_va0 rfl (rdl_some h14).1 (rdl_some h14).2.1) ?_
   refine F.qn rfl rfl rfl rfl (r_load ta3 rfl (fun w hw => cell_0 (Rd.flat ((fun _ hw => hr_a0.sep hw) w hw) (rdl_some h14).2.2) rfl)) ?_
   refine F.qcn rfl rfl rfl rfl (q_callC (xs := _) rfl ho_a1 rfl rfl (fun w hw => hf_a1 w hw.ext _  _ h16)) ?_
   refine F.nil (Nrm.seq (Tri.cond (b := t16) rfl (fun g_2 => ?_) (fun g_2 => ?_)))
   ·replace hE_1 := if_tt g_2 hE_1
    refine Tri.seq (Tri.reg (l := [0, 1]) rfl ?_)
    refine F.qn rfl rfl rfl rfl (r_move rfl) ?_
    refine F.qn rfl rfl rfl rfl (r_assign rfl) ?_
    refine F.nil (Nrm.seq (Tri.ret ?_))
    refine Rtn.block ?_
    refine Rtn.then ?_
    refine Rtn.then ?_
    refine Rtn.block ?_
    refine Rtn.then ?_
    cases hE_1
    replace h := Lr_inr h
    cases h
    exact Rtn.body (.tmp rfl .nil) (fun w hw => ⟨rfl, hw.ext⟩)
   ·replace hE_1 := if_ff g_2 hE_1
    refine Tri.skip (Nrm.block ?_)
    refine Nrm.seq (Tri.reg (l := [0, 1]) rfl ?_)
    refine F.qn rfl rfl rfl rfl (r_add rfl rfl) ?_
    refine F.qn rfl rfl rfl rfl (r_move rfl) ?_
    refine F.nil (Nrm.round ?_)
    refine Rnd.only [0, 1, 7, 8] rfl ?_
    refine Rnd.pick [] rfl rfl ?_
    exact ih_1 _ _ ⟨w64 (x8 + 1), hE_1, rfl, rfl⟩
  ·replace hE_1 := if_ff g_1 hE_1
   refine Tri.exit ?_
   refine Exi.then ?_
   refine Exi.then ?_
   refine Exi.same ?_
   cases hE_1
   replace h := Lr_inl h
   refine Nrm.seq (Tri.seq (Tri.reg (l := [0]) rfl ?_))
   refine F.qn rfl rfl rfl rfl (r_assign rfl) ?_
   refine F.nil (Nrm.seq (Tri.ret ?_))
   cases h
   exact Rtn.body (.tmp rfl .nil) (fun w hw => ⟨rfl, hw.ext⟩)


def slices_ContainsFunc_int_int.f (k : Nat) (a0 : List Int) (a1 : (Int → Option (Bool))) : Option (Bool) := (slices_IndexFunc_int_int.f k a0 a1).bind fun t7 => some (decide (t7 ≥ 0))

theorem slices_ContainsFunc_int_int.ok {k : Nat}  {a0 : List Int} {a1 : (Int → Option (Bool))} {r0 : Bool} (h : slices_ContainsFunc_int_int.f k a0 a1 = some r0) (w : World) {va0 : Value} (hr_a0 : Rd w va0 a0) {fi_a1 : FuncId} {ca_a1 : Array Value} (ho_a1 : CallOk Try.prog fi_a1) (hf_a1 : ∀ w2, Ext w w2 → ∀ (z0 : Int) (y : Bool), a1 z0 = some y → Calls Try.prog fi_a1 (([.int .i64 z0] : List Value) ++ ca_a1.toList).toArray w2 (fun e w3 => e = .returned (.bool y) ∧ Ext w2 w3)) :
  Calls Try.prog 150 ([va0, .func (.func fi_a1) #[] ca_a1] : List Value).toArray w (fun e w' => e = .returned (.bool r0) ∧ Ext w w') := by
 unfold slices_ContainsFunc_int_int.f at h
 have hl_va0 := hr_a0.len
 refine Calls.of_tri (N := 9) Try.func150 rfl rfl rfl (Sep.nil (M := noM)) ?_
 refine Tri.seq (Tri.reg (l := [0]) rfl ?_)
 refine F.qn rfl rfl rfl rfl (r_assign rfl) ?_
 refine F.nil (Nrm.seq (Tri.seq ?_))
 obtain ⟨t7, h7, h⟩ := bind_some h
 refine Tri.reg (l := [0, 1, 2, 3, 4]) rfl ?_
 refine F.qn rfl rfl rfl rfl (r_move rfl) ?_
 refine F.qn rfl rfl rfl rfl (r_move rfl) ?_
 refine F.qcn rfl rfl rfl rfl (q_callF (xs := _) rfl ok188 rfl rfl (fun w hw => slices_IndexFunc_int_int.ok h7 w ((fun _ hw => hr_a0.sep hw) w hw) ho_a1 (fun w2 he2 => hf_a1 w2 (hw.ext.trans he2)))) ?_
 refine F.qn rfl rfl rfl rfl (r_geq rfl rfl) ?_
 refine F.qn rfl rfl rfl rfl (r_assign rfl) ?_
 refine F.nil (Nrm.seq (Tri.ret ?_))
 cases h
 exact Rtn.body (.tmp rfl .nil) (fun w hw => ⟨rfl, hw.ext⟩)


def cmp_Or_int.l0 (k : Nat) (a0 : List Int) : Nat → Int → Option ((Unit) ⊕ (Int))
 | 0, _ => none
 | n + 1, x8 => (if (decide (x8 < (a0.length : Int))) = true then (rdl a0 x8).bind fun t10 => (if (t10 != 0) = true then some (Sum.inr t10) else cmp_Or_int.l0 k a0 n (w64 (x8 + 1))) else some (Sum.inl ()))

def cmp_Or_int.f (k : Nat) (a0 : List Int) : Option (Int) := (cmp_Or_int.l0 k a0 k 0).bind fun s => Lr s some fun _ => some 0

theorem cmp_Or_int.ok {k : Nat}  {a0 : List Int} {r0 : Int} (h : cmp_Or_int.f k a0 = some r0) (w : World) {va0 : Value} (hr_a0 : Rd w va0 a0) :
  Calls Try.prog 215 ([va0] : List Value).toArray w (fun e w' => e = .returned (.int .i64 r0) ∧ Ext w w') := by
 unfold cmp_Or_int.f at h
 have hl_va0 := hr_a0.len
 refine Calls.of_tri (N := 18) Try.func215 rfl rfl rfl (Sep.nil (M := noM)) ?_
 refine Tri.seq (Tri.reg (l := [0]) rfl ?_)
 refine F.qn rfl rfl rfl rfl (r_assign rfl) ?_
 refine F.nil (Nrm.seq (Tri.seq (Tri.reg (l := [0]) rfl ?_)))
 refine F.qn rfl rfl rfl rfl (r_assign rfl) ?_
 refine F.nil (Nrm.seq (Tri.seq (Tri.seq (Tri.reg (l := [0, 1, 2]) rfl ?_))))
 refine F.qn rfl rfl rfl rfl (r_move rfl) ?_
 refine F.qn rfl rfl rfl rfl (r_len Try.underlying25 rfl hl_va0) ?_
 refine F.qn rfl rfl rfl rfl (r_move rfl) ?_
 refine F.nil (Nrm.seq ?_)
 obtain ⟨s0, hE_1, h⟩ := bind_some h
 refine Tri.block ?_
 refine Tri.only [3, 6, 7, 8] rfl ?_
 refine Tri.pick [] rfl rfl ?_
 refine Tri.rounds (fun n e' C' => ∃ (x8' : Int), cmp_Or_int.l0 k a0 n x8' = some s0 ∧ e' = [(3, .int .i64 0), (6, va0), (7, .int .i64 (a0.length : Int)), (8, .int .i64 x8')] ∧ C' = Sep w noM []) k ?_ ?_ ?_
 ·exact ⟨0, hE_1, rfl, rfl⟩
 ·rintro _ _ ⟨_, hE_1, _⟩
  rw [cmp_Or_int.l0.eq_1] at hE_1; cases hE_1
 ·rintro n_1 _ _ ⟨x8, hE_1, rfl, rfl⟩ ih_1
  rw [cmp_Or_int.l0.eq_2] at hE_1
  refine Tri.seq (Tri.reg (l := [0]) rfl ?_)
  refine F.qn rfl rfl rfl rfl (r_lss rfl rfl) ?_
  refine F.nil (Nrm.seq (Tri.seq (Tri.cond (b := decide (x8 < (a0.length : Int))) rfl (fun g_1 => ?_) (fun g_1 => ?_))))
  ·replace hE_1 := if_tt g_1 hE_1
   refine Tri.skip (Nrm.seq (Tri.seq (Tri.block ?_)))
   refine Tri.seq ?_
   obtain ⟨t10, h10, hE_1⟩ := bind_some hE_1
   refine Tri.reg (l := [0, 1, 2]) rfl ?_
   refine F.qn rfl rfl rfl rfl (r_indexAddrS Try.underlying25 ti3 rfl hl_va0 rfl (rdl_some h10).1 (rdl_some h10).2.1) ?_
   refine F.qn rfl rfl rfl rfl (r_load ta3 rfl (fun w hw => cell_0 (Rd.flat ((fun _ hw => hr_a0.sep hw) w hw) (rdl_some h10).2.2) rfl)) ?_
   refine F.qn rfl rfl rfl rfl (r_assign rfl) ?_
   refine F.nil (Nrm.seq (Tri.seq (Tri.reg (l := [0, 1, 2]) rfl ?_)))
   refine F.qn rfl rfl rfl rfl (r_move rfl) ?_
   refine F.qn rfl rfl rfl rfl (r_move rfl) ?_
   refine F.qn rfl rfl rfl rfl (r_neq rfl rfl) ?_
   refine F.nil (Nrm.seq (Tri.cond (b := t10 != 0) rfl (fun g_2 => ?_) (fun g_2 => ?_)))
   ·replace hE_1 := if_tt g_2 hE_1
    refine Tri.seq (Tri.reg (l := [0, 1]) rfl ?_)
    refine F.qn rfl rfl rfl rfl (r_move rfl) ?_
    refine F.qn rfl rfl rfl rfl (r_assign rfl) ?_
    refine F.nil (Nrm.seq (Tri.ret ?_))
    refine Rtn.block ?_
    refine Rtn.then ?_
    refine Rtn.then ?_
    refine Rtn.block ?_
    refine Rtn.then ?_
    cases hE_1
    replace h := Lr_inr h
    cases h
    exact Rtn.body (.tmp rfl .nil) (fun w hw => ⟨rfl, hw.ext⟩)
   ·replace hE_1 := if_ff g_2 hE_1
    refine Tri.skip (Nrm.block ?_)
    refine Nrm.seq (Tri.reg (l := [0, 1]) rfl ?_)
    refine F.qn rfl rfl rfl rfl (r_add rfl rfl) ?_
    refine F.qn rfl rfl rfl rfl (r_move rfl) ?_
    refine F.nil (Nrm.round ?_)
    refine Rnd.only [3, 6, 7, 8] rfl ?_
    refine Rnd.pick [] rfl rfl ?_
    exact ih_1 _ _ ⟨w64 (x8 + 1), hE_1, rfl, rfl⟩
  ·replace hE_1 := if_ff g_1 hE_1
   refine Tri.exit ?_
   refine Exi.then ?_
   refine Exi.then ?_
   refine Exi.same ?_
   cases hE_1
   replace h := Lr_inl h
   refine Nrm.seq (Tri.seq (Tri.reg (l := [0, 1]) rfl ?_))
   refine F.qn rfl rfl rfl rfl (r_move rfl) ?_
   refine F.qn rfl rfl rfl rfl (r_assign rfl) ?_
   refine F.nil (Nrm.seq (Tri.ret ?_))
   cases h
   exact Rtn.body (.tmp rfl .nil) (fun w hw => ⟨rfl, hw.ext⟩)


def cmp_isNaN_int.f (k : Nat) (a0 : Int) : Option (Bool) := some (a0 != a0)

theorem cmp_isNaN_int.ok {k : Nat}  {a0 : Int} {r0 : Bool} (h : cmp_isNaN_int.f k a0 = some r0) (w : World) :
  Calls Try.prog 229 ([.int .i64 a0] : List Value).toArray w (fun e w' => e = .returned (.bool r0) ∧ Ext w w') := by
 unfold cmp_isNaN_int.f at h
 refine Calls.of_tri (N := 6) Try.func229 rfl rfl rfl (Sep.nil (M := noM)) ?_
 refine Tri.seq (Tri.reg (l := [0]) rfl ?_)
 refine F.qn rfl rfl rfl rfl (r_assign rfl) ?_
 refine F.nil (Nrm.seq (Tri.seq (Tri.reg (l := [0, 1, 2, 3]) rfl ?_)))
 refine F.qn rfl rfl rfl rfl (r_move rfl) ?_
 refine F.qn rfl rfl rfl rfl (r_move rfl) ?_
 refine F.qn rfl rfl rfl rfl (r_neq rfl rfl) ?_
 refine F.qn rfl rfl rfl rfl (r_assign rfl) ?_
 refine F.nil (Nrm.seq (Tri.ret ?_))
 cases h
 exact Rtn.body (.tmp rfl .nil) (fun w hw => ⟨rfl, hw.ext⟩)


def cmp_Compare_int.f (k : Nat) (a0 : Int) (a1 : Int) : Option (Int) := (cmp_isNaN_int.f k a0).bind fun t8 => (cmp_isNaN_int.f k a1).bind fun t10 => (if t8 = true then (if t10 = true then some 0 else some (-1)) else (if t10 = true then some 1 else (if (decide (a0 < a1)) = true then some (-1) else (if (decide (a0 > a1)) = true then some 1 else some 0))))

theorem cmp_Compare_int.ok {k : Nat}  {a0 : Int} {a1 : Int} {r0 : Int} (h : cmp_Compare_int.f k a0 a1 = some r0) (w : World) :
  Calls Try.prog 216 ([.int .i64 a0, .int .i64 a1] : List Value).toArray w (fun e w' => e = .returned (.int .i64 r0) ∧ Ext w w') := by
 unfold cmp_Compare_int.f at h
 refine Calls.of_tri (N := 20) Try.func216 rfl rfl rfl (Sep.nil (M := noM)) ?_
 refine Tri.seq (Tri.reg (l := [0]) rfl ?_)
 refine F.qn rfl rfl rfl rfl (r_assign rfl) ?_
 refine F.nil (Nrm.seq (Tri.seq ?_))
 obtain ⟨t8, h8, h⟩ := bind_some h
 refine Tri.reg (l := [0, 1, 2]) rfl ?_
 refine F.qn rfl rfl rfl rfl (r_move rfl) ?_
 refine F.qcn rfl rfl rfl rfl (q_callF (xs := _) rfl ok229 rfl rfl (fun w hw => cmp_isNaN_int.ok h8 w )) ?_
 refine F.qn rfl rfl rfl rfl (r_assign rfl) ?_
 refine F.nil (Nrm.seq (Tri.seq ?_))
 obtain ⟨t10, h10, h⟩ := bind_some h
 refine Tri.reg (l := [0, 1, 2]) rfl ?_
 refine F.qn rfl rfl rfl rfl (r_move rfl) ?_
 refine F.qcn rfl rfl rfl rfl (q_callF (xs := _) rfl ok229 rfl rfl (fun w hw => cmp_isNaN_int.ok h10 w )) ?_
 refine F.qn rfl rfl rfl rfl (r_assign rfl) ?_
 refine F.nil (Nrm.seq (Tri.seq (Tri.seq (Tri.reg (l := [0]) rfl ?_))))
 refine F.qn rfl rfl rfl rfl (r_move rfl) ?_
 refine F.nil (Nrm.seq (Tri.cond (b := t8) rfl (fun g_1 => ?_) (fun g_1 => ?_)))
 ·replace h := if_tt g_1 h
  refine Tri.seq (Tri.seq (Tri.reg (l := [0]) rfl ?_))
  refine F.qn rfl rfl rfl rfl (r_move rfl) ?_
  refine F.nil (Nrm.seq (Tri.cond (b := t10) rfl (fun g_2 => ?_) (fun g_2 => ?_)))
  ·replace h := if_tt g_2 h
   refine Tri.seq (Tri.reg (l := [0]) rfl ?_)
   refine F.qn rfl rfl rfl rfl (r_assign rfl) ?_
   refine F.nil (Nrm.seq (Tri.ret ?_))
   refine Rtn.then ?_
   refine Rtn.then ?_
   cases h
   exact Rtn.body (.tmp rfl .nil) (fun w hw => ⟨rfl, hw.ext⟩)
  ·replace h := if_ff g_2 h
   refine Tri.skip (Nrm.seq (Tri.seq (Tri.reg (l := [0]) rfl ?_)))
   refine F.qn rfl rfl rfl rfl (r_assign rfl) ?_
   refine F.nil (Nrm.seq (Tri.ret ?_))
   refine Rtn.then ?_
   cases h
   exact Rtn.body (.tmp rfl .nil) (fun w hw => ⟨rfl, hw.ext⟩)
 ·replace h := if_ff g_1 h
  refine Tri.skip (Nrm.seq (Tri.seq (Tri.seq (Tri.reg (l := [0]) rfl ?_))))
  refine F.qn rfl rfl rfl rfl (r_move rfl) ?_
  refine F.nil (Nrm.seq (Tri.cond (b := t10) rfl (fun g_3 => ?_) (fun g_3 => ?_)))
  ·replace h := if_tt g_3 h
   refine Tri.seq (Tri.reg (l := [0]) rfl ?_)
   refine F.qn rfl rfl rfl rfl (r_assign rfl) ?_
   refine F.nil (Nrm.seq (Tri.ret ?_))
   refine Rtn.then ?_
   cases h
   exact Rtn.body (.tmp rfl .nil) (fun w hw => ⟨rfl, hw.ext⟩)
  ·replace h := if_ff g_3 h
   refine Tri.skip (Nrm.seq (Tri.seq (Tri.seq (Tri.reg (l := [0, 1, 2]) rfl ?_))))
   refine F.qn rfl rfl rfl rfl (r_move rfl) ?_
   refine F.qn rfl rfl rfl rfl (r_move rfl) ?_
   refine F.qn rfl rfl rfl rfl (r_lss rfl rfl) ?_
   refine F.nil (Nrm.seq (Tri.cond (b := decide (a0 < a1)) rfl (fun g_4 => ?_) (fun g_4 => ?_)))
   ·replace h := if_tt g_4 h
    refine Tri.seq (Tri.reg (l := [0]) rfl ?_)
    refine F.qn rfl rfl rfl rfl (r_assign rfl) ?_
    refine F.nil (Nrm.seq (Tri.ret ?_))
    refine Rtn.then ?_
    cases h
    exact Rtn.body (.tmp rfl .nil) (fun w hw => ⟨rfl, hw.ext⟩)
   ·replace h := if_ff g_4 h
    refine Tri.skip (Nrm.seq (Tri.seq (Tri.seq (Tri.reg (l := [0, 1, 2]) rfl ?_))))
    refine F.qn rfl rfl rfl rfl (r_move rfl) ?_
    refine F.qn rfl rfl rfl rfl (r_move rfl) ?_
    refine F.qn rfl rfl rfl rfl (r_gtr rfl rfl) ?_
    refine F.nil (Nrm.seq (Tri.cond (b := decide (a0 > a1)) rfl (fun g_5 => ?_) (fun g_5 => ?_)))
    ·replace h := if_tt g_5 h
     refine Tri.seq (Tri.reg (l := [0]) rfl ?_)
     refine F.qn rfl rfl rfl rfl (r_assign rfl) ?_
     refine F.nil (Nrm.seq (Tri.ret ?_))
     refine Rtn.then ?_
     cases h
     exact Rtn.body (.tmp rfl .nil) (fun w hw => ⟨rfl, hw.ext⟩)
    ·replace h := if_ff g_5 h
     refine Tri.skip (Nrm.seq (Tri.seq (Tri.reg (l := [0]) rfl ?_)))
     refine F.qn rfl rfl rfl rfl (r_assign rfl) ?_
     refine F.nil (Nrm.seq (Tri.ret ?_))
     cases h
     exact Rtn.body (.tmp rfl .nil) (fun w hw => ⟨rfl, hw.ext⟩)


def impl_compareDoors.f (k : Nat) (a0_0 : Int) (a0_1 : Int) (a0_2 : Int) (a1_0 : Int) (a1_1 : Int) (a1_2 : Int) : Option (Int) := (cmp_Compare_int.f k a0_0 a1_0).bind fun t9 => (cmp_Compare_int.f k a0_1 a1_1).bind fun t14 => (cmp_Compare_int.f k a0_2 a1_2).bind fun t19 => (cmp_Or_int.f k ([t9, t14, t19] : List (Int))).bind fun t21 => some t21

theorem impl_compareDoors.ok {k : Nat}  {a0_0 : Int} {a0_1 : Int} {a0_2 : Int} {a1_0 : Int} {a1_1 : Int} {a1_2 : Int} {r0 : Int} (h : impl_compareDoors.f k a0_0 a0_1 a0_2 a1_0 a1_1 a1_2 = some r0) (w : World) :
  Calls Try.prog 195 ([.agg ([.int .i64 a0_0, .int .i64 a0_1, .int .i64 a0_2].toArray), .agg ([.int .i64 a1_0, .int .i64 a1_1, .int .i64 a1_2].toArray)] : List Value).toArray w (fun e w' => e = .returned (.int .i64 r0) ∧ Ext w w') := by
 unfold impl_compareDoors.f at h
 refine Calls.of_tri (N := 22) Try.func195 rfl rfl rfl (Sep.nil (M := noM)) ?_
 refine Tri.seq (Tri.reg (l := [0, 1, 2]) rfl ?_)
 refine F.mn rfl rfl rfl rfl (m_boxG rfl rfl) ?_
 rintro _ _ ⟨b2_1, rfl, rfl⟩
 refine F.mn rfl rfl rfl rfl (m_boxG rfl rfl) ?_
 rintro _ _ ⟨b3_1, rfl, rfl⟩
 refine F.qn rfl rfl rfl rfl (r_assign rfl) ?_
 refine F.nil (Nrm.seq (Tri.seq ?_))
 obtain ⟨t9, h9, h⟩ := bind_some h
 obtain ⟨t14, h14, h⟩ := bind_some h
 obtain ⟨t19, h19, h⟩ := bind_some h
 obtain ⟨t21, h21, h⟩ := bind_some h
 refine Tri.drawA mixedT Sep.up [(0, true), (1, true), (2, true), (3, true), (4, true), (5, true), (6, true), (7, true), (8, true), (9, true), (10, true), (11, true), (12, true), (13, true), (14, true), (15, false), (16, true), (17, true)] [] (by kernel_rfl) ?_
 refine S.qn rfl rfl rfl rfl (r_indexAddrA Try.underlying121 ti3 rfl rfl (by decide) (by decide)) ?_
 refine S.qn rfl rfl rfl rfl (r_load ta3 rfl (fun w hw => cell_1 (box_cells (i := 1) rfl w hw) rfl)) ?_
 refine S.qn rfl rfl rfl rfl (r_indexAddrA Try.underlying121 ti3 rfl rfl (by decide) (by decide)) ?_
 refine S.qn rfl rfl rfl rfl (r_load ta3 rfl (fun w hw => cell_1 (box_cells (i := 0) rfl w hw) rfl)) ?_
 refine S.qcn rfl rfl rfl rfl (q_callF (xs := _) rfl ok216 rfl rfl (fun w hw => cmp_Compare_int.ok h9 w )) ?_
 refine S.qn rfl rfl rfl rfl (r_indexAddrA Try.underlying121 ti3 rfl rfl (by decide) (by decide)) ?_
 refine S.qn rfl rfl rfl rfl (r_load ta3 rfl (fun w hw => cell_1 (box_cells (i := 1) rfl w hw) rfl)) ?_
 refine S.qn rfl rfl rfl rfl (r_indexAddrA Try.underlying121 ti3 rfl rfl (by decide) (by decide)) ?_
 refine S.qn rfl rfl rfl rfl (r_load ta3 rfl (fun w hw => cell_1 (box_cells (i := 0) rfl w hw) rfl)) ?_
 refine S.qcn rfl rfl rfl rfl (q_callF (xs := _) rfl ok216 rfl rfl (fun w hw => cmp_Compare_int.ok h14 w )) ?_
 refine S.qn rfl rfl rfl rfl (r_indexAddrA Try.underlying121 ti3 rfl rfl (by decide) (by decide)) ?_
 refine S.qn rfl rfl rfl rfl (r_load ta3 rfl (fun w hw => cell_1 (box_cells (i := 1) rfl w hw) rfl)) ?_
 refine S.qn rfl rfl rfl rfl (r_indexAddrA Try.underlying121 ti3 rfl rfl (by decide) (by decide)) ?_
 refine S.qn rfl rfl rfl rfl (r_load ta3 rfl (fun w hw => cell_1 (box_cells (i := 0) rfl w hw) rfl)) ?_
 refine S.qcn rfl rfl rfl rfl (q_callF (xs := _) rfl ok216 rfl rfl (fun w hw => cmp_Compare_int.ok h19 w )) ?_
 refine S.m rfl rfl rfl (wanted_none rfl) (m_buildF (l := ([t9, t14, t19] : List (Int))) Try.underlying25 ti3 rfl rfl rfl rfl rfl) ?_
 rintro v20_2 _ ⟨S20_2, hl_v20_2, rfl⟩
 refine S.qcn rfl rfl rfl rfl (q_callF (xs := _) rfl ok215 rfl rfl (fun w hw => cmp_Or_int.ok h21 w ((rd_sl (i := 0) rfl) w hw))) ?_
 refine S.qn rfl rfl rfl rfl (r_assign rfl) ?_
 refine S.nil (F.nil (Nrm.seq (Tri.ret ?_)))
 cases h
 exact Rtn.body (.tmp rfl .nil) (fun w hw => ⟨rfl, hw.ext⟩)


def impl_IsMaze_1.f (k : Nat) (a0 : Int) : Option (Bool) := (impl_isSet.f k a0).bind fun t4 => some (!t4)

theorem impl_IsMaze_1.ok {k : Nat}  {a0 : Int} {r0 : Bool} (h : impl_IsMaze_1.f k a0 = some r0) (w : World) :
  Calls Try.prog 196 ([.int .i64 a0] : List Value).toArray w (fun e w' => e = .returned (.bool r0) ∧ Ext w w') := by
 unfold impl_IsMaze_1.f at h
 refine Calls.of_tri (N := 6) Try.func196 rfl rfl rfl (Sep.nil (M := noM)) ?_
 refine Tri.seq (Tri.reg (l := [0]) rfl ?_)
 refine F.qn rfl rfl rfl rfl (r_assign rfl) ?_
 refine F.nil (Nrm.seq (Tri.seq ?_))
 obtain ⟨t4, h4, h⟩ := bind_some h
 refine Tri.reg (l := [0, 1, 2, 3]) rfl ?_
 refine F.qn rfl rfl rfl rfl (r_move rfl) ?_
 refine F.qcn rfl rfl rfl rfl (q_callF (xs := _) rfl ok101 rfl rfl (fun w hw => impl_isSet.ok h4 w )) ?_
 refine F.qn rfl rfl rfl rfl (r_not rfl) ?_
 refine F.qn rfl rfl rfl rfl (r_assign rfl) ?_
 refine F.nil (Nrm.seq (Tri.ret ?_))
 cases h
 exact Rtn.body (.tmp rfl .nil) (fun w hw => ⟨rfl, hw.ext⟩)


def impl_IsMaze.l0 (k : Nat) (a0_0 : Int) (a0_1 : List (Int × Int × Int)) : Nat → Int → Option ((Unit) ⊕ (Bool))
 | 0, _ => none
 | n + 1, x26 => (if (decide (x26 < (a0_1.length : Int))) = true then (rdl a0_1 x26).bind fun t29 => ((if (decide (t29.1 < 0)) = true then some true else (if (decide (t29.1 ≥ t29.2.1)) = true then some true else (if (decide (t29.2.1 ≥ a0_0)) = true then some true else (impl_isSet.f k t29.2.2).bind fun t51 => (if (!t51) = true then some true else (if (decide (x26 > 0)) = true then (rdl a0_1 (w64 (x26 - 1))).bind fun t62 => (impl_compareDoors.f k t62.1 t62.2.1 t62.2.2 t29.1 t29.2.1 t29.2.2).bind fun t65 => some (decide (t65 ≥ 0)) else some false)))))).bind fun y68 => (if y68 = true then some (Sum.inr false) else impl_IsMaze.l0 k a0_0 a0_1 n (w64 (x26 + 1))) else some (Sum.inl ()))

def impl_IsMaze.f (k : Nat) (a0_0 : Int) (a0_1 : List (Int × Int × Int)) (a0_2 : List Int) : Option (Bool) := ((impl_within.f k a0_0 1 12).bind fun t7 => (if (!t7) = true then some true else (if (decide ((a0_1.length : Int) > 30)) = true then some true else some ((a0_2.length : Int) != a0_0)))).bind fun y22 => (if y22 = true then some false else (impl_IsMaze.l0 k a0_0 a0_1 k 0).bind fun s => Lr s some fun _ => (slices_ContainsFunc_int_int.f k a0_2 (fun z0 => impl_IsMaze_1.f k z0)).bind fun t72 => some (!t72))

theorem impl_IsMaze.ok {k : Nat}  {a0_0 : Int} {a0_1 : List (Int × Int × Int)} {a0_2 : List Int} {r0 : Bool} (h : impl_IsMaze.f k a0_0 a0_1 a0_2 = some r0) (w : World) {va0_1 : Value} {va0_2 : Value} (hr_a0_1 : Rd w va0_1 a0_1) (hr_a0_2 : Rd w va0_2 a0_2) :
  Calls Try.prog 143 ([.agg ([.int .i64 a0_0, va0_1, va0_2].toArray)] : List Value).toArray w (fun e w' => e = .returned (.bool r0) ∧ Ext w w') := by
 unfold impl_IsMaze.f at h
 have hl_va0_1 := hr_a0_1.len
 have hl_va0_2 := hr_a0_2.len
 refine Calls.of_tri (N := 74) Try.func143 rfl rfl rfl (Sep.nil (M := noM)) ?_
 refine Tri.seq (Tri.reg (l := [0, 1]) rfl ?_)
 refine F.mn rfl rfl rfl rfl (m_boxG rfl rfl) ?_
 rintro _ _ ⟨b1_1, rfl, rfl⟩
 refine F.qn rfl rfl rfl rfl (r_assign rfl) ?_
 refine F.nil (Nrm.seq (Tri.seq (Tri.seq ?_)))
 obtain ⟨y22, hE_1, h⟩ := bind_some h
 refine Tri.cut (fun e' C' => e' = [(1, .pointer (some ⟨b1_1, 0, none⟩)), (22, .bool y22)] ∧ C' = Sep w noM [R.box b1_1 27 [.int .i64 a0_0, va0_1, va0_2]]) ?_ (fun hj_1 => ?_)
 ·rintro _ _ ⟨rfl, rfl⟩
  refine Nrm.seq (Tri.cond (b := y22) rfl (fun g_1 => ?_) (fun g_1 => ?_))
  ·replace h := if_tt g_1 h
   refine Tri.seq (Tri.reg (l := [0]) rfl ?_)
   refine F.qn rfl rfl rfl rfl (r_assign rfl) ?_
   refine F.nil (Nrm.seq (Tri.ret ?_))
   refine Rtn.then ?_
   cases h
   exact Rtn.body (.tmp rfl .nil) (fun w hw => ⟨rfl, hw.ext⟩)
  ·replace h := if_ff g_1 h
   refine Tri.skip (Nrm.seq (Tri.seq (Tri.seq (Tri.reg (l := [0, 1, 2, 3]) rfl ?_))))
   refine F.qn rfl rfl rfl rfl (r_fieldAddr tf27_1 rfl) ?_
   refine F.qn rfl rfl rfl rfl (r_load ta24 rfl (fun w hw => cell_1 (box_cells (i := 0) rfl w hw) rfl)) ?_
   refine F.qn rfl rfl rfl rfl (r_len Try.underlying24 rfl hl_va0_1) ?_
   refine F.qn rfl rfl rfl rfl (r_move rfl) ?_
   refine F.nil (Nrm.seq ?_)
   obtain ⟨s0, hE_2, h⟩ := bind_some h
   refine Tri.block ?_
   refine Tri.only [1, 24, 25, 26] rfl ?_
   refine Tri.pick [0] rfl rfl ?_
   refine Tri.rounds (fun n e' C' => ∃ (x26' : Int), impl_IsMaze.l0 k a0_0 a0_1 n x26' = some s0 ∧ e' = [(1, .pointer (some ⟨b1_1, 0, none⟩)), (24, va0_1), (25, .int .i64 (a0_1.length : Int)), (26, .int .i64 x26')] ∧ C' = Sep w noM [R.box b1_1 27 [.int .i64 a0_0, va0_1, va0_2]]) k ?_ ?_ ?_
   ·exact ⟨0, hE_2, rfl, rfl⟩
   ·rintro _ _ ⟨_, hE_2, _⟩
    rw [impl_IsMaze.l0.eq_1] at hE_2; cases hE_2
   ·rintro n_1 _ _ ⟨x26, hE_2, rfl, rfl⟩ ih_1
    rw [impl_IsMaze.l0.eq_2] at hE_2
    refine Tri.seq (Tri.reg (l := [0]) rfl ?_)
    refine F.qn rfl rfl rfl rfl (r_lss rfl rfl) ?_
    refine F.nil (Nrm.seq (Tri.seq (Tri.cond (b := decide (x26 < (a0_1.length : Int))) rfl (fun g_2 => ?_) (fun g_2 => ?_))))
    ·replace hE_2 := if_tt g_2 hE_2
     refine Tri.skip (Nrm.seq (Tri.seq (Tri.block ?_)))
     refine Tri.seq ?_
     obtain ⟨t29, h29, hE_2⟩ := bind_some hE_2
     refine Tri.reg (l := [0, 1, 2, 3, 4, 5]) rfl ?_
     refine F.qn rfl rfl rfl rfl (r_move rfl) ?_
     refine F.qn rfl rfl rfl rfl (r_indexAddrS Try.underlying24 ti121 rfl hl_va0_1 rfl (rdl_some h29).1 (rdl_some h29).2.1) ?_
     refine F.qn rfl rfl rfl rfl (r_loadA ta121 ti121 rfl rfl (fun w hw => (Rd.flat ((fun _ hw => hr_a0_1.sep hw) w hw) (rdl_some h29).2.2))) ?_
     refine F.mn rfl rfl rfl rfl (m_alloc ti121) ?_
     rintro _ _ ⟨b4_1, rfl, rfl⟩
     refine F.qn rfl rfl rfl rfl (r_assign rfl) ?_
     refine F.ef0 rfl rfl (wanted_none rfl) (d_storeG0 (i := 0) (cs2 := [.int .i64 t29.1, .int .i64 t29.2.1, .int .i64 t29.2.2]) ti121 rfl rfl rfl rfl rfl (Nat.le_of_ble_eq_true rfl) (lf_cons rfl (lf_cons rfl (lf_cons rfl lf_nil)))) ?_
     rintro _ _ ⟨rfl, rfl⟩
     refine F.nil (Nrm.seq (Tri.seq ?_))
     obtain ⟨y68, hE_3, hE_2⟩ := bind_some hE_2
     refine Tri.cut (fun e' C' => e' = [(1, .pointer (some ⟨b1_1, 0, none⟩)), (24, va0_1), (25, .int .i64 (a0_1.length : Int)), (26, .int .i64 x26), (68, .bool y68)] ∧ C' = Sep w noM [R.box b1_1 27 [.int .i64 a0_0, va0_1, va0_2]]) ?_ (fun hj_2 => ?_)
     ·rintro _ _ ⟨rfl, rfl⟩
      refine Nrm.seq (Tri.cond (b := y68) rfl (fun g_3 => ?_) (fun g_3 => ?_))
      ·replace hE_2 := if_tt g_3 hE_2
       refine Tri.seq (Tri.reg (l := [0]) rfl ?_)
       refine F.qn rfl rfl rfl rfl (r_assign rfl) ?_
       refine F.nil (Nrm.seq (Tri.ret ?_))
       refine Rtn.block ?_
       refine Rtn.then ?_
       refine Rtn.then ?_
       refine Rtn.block ?_
       refine Rtn.then ?_
       cases hE_2
       replace h := Lr_inr h
       cases h
       exact Rtn.body (.tmp rfl .nil) (fun w hw => ⟨rfl, hw.ext⟩)
      ·replace hE_2 := if_ff g_3 hE_2
       refine Tri.skip (Nrm.block ?_)
       refine Nrm.seq (Tri.reg (l := [0, 1]) rfl ?_)
       refine F.qn rfl rfl rfl rfl (r_add rfl rfl) ?_
       refine F.qn rfl rfl rfl rfl (r_move rfl) ?_
       refine F.nil (Nrm.round ?_)
       refine Rnd.only [1, 24, 25, 26] rfl ?_
       refine Rnd.pick [0] rfl rfl ?_
       exact ih_1 _ _ ⟨w64 (x26 + 1), hE_2, rfl, rfl⟩
     ·rcases Bool.eq_false_or_eq_true (decide (t29.1 < 0)) with g34 | g34
      ·replace hE_3 := if_tt g34 hE_3
       refine Tri.drawA mixedT Sep.up [(0, true), (1, true), (2, true), (3, true), (4, true), (5, true), (6, true), (7, true), (8, true), (9, true), (10, true), (11, true), (12, true), (13, true), (14, true), (15, true), (16, true), (17, true), (18, true), (19, true), (20, true), (21, true), (22, true), (23, true), (24, true), (25, true), (26, true), (27, true), (28, true), (29, true), (30, true), (31, true), (32, true), (33, true), (34, true), (35, true), (36, true), (37, true)] [] (by kernel_rfl) ?_
       refine S.qn rfl rfl rfl rfl (r_indexAddrA Try.underlying121 ti3 rfl rfl (by decide) (by decide)) ?_
       refine S.qn rfl rfl rfl rfl (r_load ta3 rfl (fun w hw => cell_1 (box_cells (i := 0) rfl w hw) rfl)) ?_
       refine S.qn rfl rfl rfl rfl (r_lss rfl rfl) ?_
       refine S.qn rfl rfl rfl rfl (r_move rfl) ?_
       iterate 5 refine S.sk rfl rfl rfl (wf rfl rfl rfl g34) ?_
       refine S.qn rfl rfl rfl rfl (r_pick rfl rfl g34) ?_
       refine S.qn rfl rfl rfl rfl (r_move rfl) ?_
       iterate 5 refine S.sk rfl rfl rfl (wf rfl rfl rfl rfl) ?_
       refine S.qn rfl rfl rfl rfl (r_pick rfl rfl rfl) ?_
       refine S.qn rfl rfl rfl rfl (r_move rfl) ?_
       iterate 4 refine S.sk rfl rfl rfl (wf rfl rfl rfl rfl) ?_
       refine S.qn rfl rfl rfl rfl (r_pick rfl rfl rfl) ?_
       refine S.qn rfl rfl rfl rfl (r_move rfl) ?_
       iterate 3 refine S.sk rfl rfl rfl (wf rfl rfl rfl rfl) ?_
       iterate 9 refine S.sk rfl rfl rfl (wanted_undef rfl rfl rfl) ?_
       refine S.sk rfl rfl rfl (wf rfl rfl rfl rfl) ?_
       refine S.qn rfl rfl rfl rfl (r_pick rfl rfl rfl) ?_
       refine S.nil (F.nil ?_)
       cases hE_3
       refine Nrm.only [1, 24, 25, 26, 68] rfl ?_
       refine Nrm.pick [1] rfl rfl ?_
       exact hj_2 _ _ ⟨rfl, rfl⟩
      ·replace hE_3 := if_ff g34 hE_3
       rcases Bool.eq_false_or_eq_true (decide (t29.1 ≥ t29.2.1)) with g41 | g41
       ·replace hE_3 := if_tt g41 hE_3
        refine Tri.drawA mixedT Sep.up [(0, true), (1, true), (2, true), (3, true), (4, true), (5, true), (6, true), (7, true), (8, true), (9, true), (10, true), (11, true), (12, true), (13, true), (14, true), (15, true), (16, true), (17, true), (18, true), (19, true), (20, true), (21, true), (22, true), (23, true), (24, true), (25, true), (26, true), (27, true), (28, true), (29, true), (30, true), (31, true), (32, true), (33, true), (34, true), (35, true), (36, true), (37, true)] [] (by kernel_rfl) ?_
        refine S.qn rfl rfl rfl rfl (r_indexAddrA Try.underlying121 ti3 rfl rfl (by decide) (by decide)) ?_
        refine S.qn rfl rfl rfl rfl (r_load ta3 rfl (fun w hw => cell_1 (box_cells (i := 0) rfl w hw) rfl)) ?_
        refine S.qn rfl rfl rfl rfl (r_lss rfl rfl) ?_
        refine S.qn rfl rfl rfl rfl (r_move rfl) ?_
        refine S.qg rfl rfl rfl rfl rfl rfl g34 (r_indexAddrA Try.underlying121 ti3 rfl rfl (by decide) (by decide)) ?_
        refine S.qg rfl rfl rfl rfl rfl rfl g34 (r_load ta3 rfl (fun w hw => cell_1 (box_cells (i := 0) rfl w hw) rfl)) ?_
        refine S.qg rfl rfl rfl rfl rfl rfl g34 (r_indexAddrA Try.underlying121 ti3 rfl rfl (by decide) (by decide)) ?_
        refine S.qg rfl rfl rfl rfl rfl rfl g34 (r_load ta3 rfl (fun w hw => cell_1 (box_cells (i := 0) rfl w hw) rfl)) ?_
        refine S.qg rfl rfl rfl rfl rfl rfl g34 (r_geq rfl rfl) ?_
        refine S.qn rfl rfl rfl rfl (r_pickf rfl rfl g34) ?_
        refine S.qn rfl rfl rfl rfl (r_move rfl) ?_
        iterate 5 refine S.sk rfl rfl rfl (wf rfl rfl rfl g41) ?_
        refine S.qn rfl rfl rfl rfl (r_pick rfl rfl g41) ?_
        refine S.qn rfl rfl rfl rfl (r_move rfl) ?_
        iterate 4 refine S.sk rfl rfl rfl (wf rfl rfl rfl rfl) ?_
        refine S.qn rfl rfl rfl rfl (r_pick rfl rfl rfl) ?_
        refine S.qn rfl rfl rfl rfl (r_move rfl) ?_
        iterate 3 refine S.sk rfl rfl rfl (wf rfl rfl rfl rfl) ?_
        iterate 9 refine S.sk rfl rfl rfl (wanted_undef rfl rfl rfl) ?_
        refine S.sk rfl rfl rfl (wf rfl rfl rfl rfl) ?_
        refine S.qn rfl rfl rfl rfl (r_pick rfl rfl rfl) ?_
        refine S.nil (F.nil ?_)
        cases hE_3
        refine Nrm.only [1, 24, 25, 26, 68] rfl ?_
        refine Nrm.pick [1] rfl rfl ?_
        exact hj_2 _ _ ⟨rfl, rfl⟩
       ·replace hE_3 := if_ff g41 hE_3
        rcases Bool.eq_false_or_eq_true (decide (t29.2.1 ≥ a0_0)) with g48 | g48
        ·replace hE_3 := if_tt g48 hE_3
         refine Tri.drawA mixedT Sep.up [(0, true), (1, true), (2, true), (3, true), (4, true), (5, true), (6, true), (7, true), (8, true), (9, true), (10, true), (11, true), (12, true), (13, true), (14, true), (15, true), (16, true), (17, true), (18, true), (19, true), (20, true), (21, true), (22, true), (23, true), (24, true), (25, true), (26, true), (27, true), (28, true), (29, true), (30, true), (31, true), (32, true), (33, true), (34, true), (35, true), (36, true), (37, true)] [] (by kernel_rfl) ?_
         refine S.qn rfl rfl rfl rfl (r_indexAddrA Try.underlying121 ti3 rfl rfl (by decide) (by decide)) ?_
         refine S.qn rfl rfl rfl rfl (r_load ta3 rfl (fun w hw => cell_1 (box_cells (i := 0) rfl w hw) rfl)) ?_
         refine S.qn rfl rfl rfl rfl (r_lss rfl rfl) ?_
         refine S.qn rfl rfl rfl rfl (r_move rfl) ?_
         refine S.qg rfl rfl rfl rfl rfl rfl g34 (r_indexAddrA Try.underlying121 ti3 rfl rfl (by decide) (by decide)) ?_
         refine S.qg rfl rfl rfl rfl rfl rfl g34 (r_load ta3 rfl (fun w hw => cell_1 (box_cells (i := 0) rfl w hw) rfl)) ?_
         refine S.qg rfl rfl rfl rfl rfl rfl g34 (r_indexAddrA Try.underlying121 ti3 rfl rfl (by decide) (by decide)) ?_
         refine S.qg rfl rfl rfl rfl rfl rfl g34 (r_load ta3 rfl (fun w hw => cell_1 (box_cells (i := 0) rfl w hw) rfl)) ?_
         refine S.qg rfl rfl rfl rfl rfl rfl g34 (r_geq rfl rfl) ?_
         refine S.qn rfl rfl rfl rfl (r_pickf rfl rfl g34) ?_
         refine S.qn rfl rfl rfl rfl (r_move rfl) ?_
         refine S.qg rfl rfl rfl rfl rfl rfl g41 (r_indexAddrA Try.underlying121 ti3 rfl rfl (by decide) (by decide)) ?_
         refine S.qg rfl rfl rfl rfl rfl rfl g41 (r_load ta3 rfl (fun w hw => cell_1 (box_cells (i := 0) rfl w hw) rfl)) ?_
         refine S.qg rfl rfl rfl rfl rfl rfl g41 (r_fieldAddr tf27_0 rfl) ?_
         refine S.qg rfl rfl rfl rfl rfl rfl g41 (r_load ta3 rfl (fun w hw => cell_1 (box_cells (i := 1) rfl w hw) rfl)) ?_
         refine S.qg rfl rfl rfl rfl rfl rfl g41 (r_geq rfl rfl) ?_
         refine S.qn rfl rfl rfl rfl (r_pickf rfl rfl g41) ?_
         refine S.qn rfl rfl rfl rfl (r_move rfl) ?_
         iterate 4 refine S.sk rfl rfl rfl (wf rfl rfl rfl g48) ?_
         refine S.qn rfl rfl rfl rfl (r_pick rfl rfl g48) ?_
         refine S.qn rfl rfl rfl rfl (r_move rfl) ?_
         iterate 3 refine S.sk rfl rfl rfl (wf rfl rfl rfl rfl) ?_
         iterate 9 refine S.sk rfl rfl rfl (wanted_undef rfl rfl rfl) ?_
         refine S.sk rfl rfl rfl (wf rfl rfl rfl rfl) ?_
         refine S.qn rfl rfl rfl rfl (r_pick rfl rfl rfl) ?_
         refine S.nil (F.nil ?_)
         cases hE_3
         refine Nrm.only [1, 24, 25, 26, 68] rfl ?_
         refine Nrm.pick [1] rfl rfl ?_
         exact hj_2 _ _ ⟨rfl, rfl⟩
        ·replace hE_3 := if_ff g48 hE_3
         obtain ⟨t51, h51, hE_3⟩ := bind_some hE_3
         rcases Bool.eq_false_or_eq_true (!t51) with g54 | g54
         ·replace hE_3 := if_tt g54 hE_3
          refine Tri.drawA mixedT Sep.up [(0, true), (1, true), (2, true), (3, true), (4, true), (5, true), (6, true), (7, true), (8, true), (9, true), (10, true), (11, true), (12, true), (13, true), (14, true), (15, true), (16, true), (17, true), (18, true), (19, true), (20, true), (21, true), (22, true), (23, true), (24, true), (25, true), (26, true), (27, true), (28, true), (29, true), (30, true), (31, true), (32, true), (33, true), (34, true), (35, true), (36, true), (37, true)] [] (by kernel_rfl) ?_
          refine S.qn rfl rfl rfl rfl (r_indexAddrA Try.underlying121 ti3 rfl rfl (by decide) (by decide)) ?_
          refine S.qn rfl rfl rfl rfl (r_load ta3 rfl (fun w hw => cell_1 (box_cells (i := 0) rfl w hw) rfl)) ?_
          refine S.qn rfl rfl rfl rfl (r_lss rfl rfl) ?_
          refine S.qn rfl rfl rfl rfl (r_move rfl) ?_
          refine S.qg rfl rfl rfl rfl rfl rfl g34 (r_indexAddrA Try.underlying121 ti3 rfl rfl (by decide) (by decide)) ?_
          refine S.qg rfl rfl rfl rfl rfl rfl g34 (r_load ta3 rfl (fun w hw => cell_1 (box_cells (i := 0) rfl w hw) rfl)) ?_
          refine S.qg rfl rfl rfl rfl rfl rfl g34 (r_indexAddrA Try.underlying121 ti3 rfl rfl (by decide) (by decide)) ?_
          refine S.qg rfl rfl rfl rfl rfl rfl g34 (r_load ta3 rfl (fun w hw => cell_1 (box_cells (i := 0) rfl w hw) rfl)) ?_
          refine S.qg rfl rfl rfl rfl rfl rfl g34 (r_geq rfl rfl) ?_
          refine S.qn rfl rfl rfl rfl (r_pickf rfl rfl g34) ?_
          refine S.qn rfl rfl rfl rfl (r_move rfl) ?_
          refine S.qg rfl rfl rfl rfl rfl rfl g41 (r_indexAddrA Try.underlying121 ti3 rfl rfl (by decide) (by decide)) ?_
          refine S.qg rfl rfl rfl rfl rfl rfl g41 (r_load ta3 rfl (fun w hw => cell_1 (box_cells (i := 0) rfl w hw) rfl)) ?_
          refine S.qg rfl rfl rfl rfl rfl rfl g41 (r_fieldAddr tf27_0 rfl) ?_
          refine S.qg rfl rfl rfl rfl rfl rfl g41 (r_load ta3 rfl (fun w hw => cell_1 (box_cells (i := 1) rfl w hw) rfl)) ?_
          refine S.qg rfl rfl rfl rfl rfl rfl g41 (r_geq rfl rfl) ?_
          refine S.qn rfl rfl rfl rfl (r_pickf rfl rfl g41) ?_
          refine S.qn rfl rfl rfl rfl (r_move rfl) ?_
          refine S.qg rfl rfl rfl rfl rfl rfl g48 (r_indexAddrA Try.underlying121 ti3 rfl rfl (by decide) (by decide)) ?_
          refine S.qg rfl rfl rfl rfl rfl rfl g48 (r_load ta3 rfl (fun w hw => cell_1 (box_cells (i := 0) rfl w hw) rfl)) ?_
          refine S.qc rfl rfl rfl (wg rfl rfl rfl g48) (q_callF (xs := _) rfl ok101 rfl rfl (fun w hw => impl_isSet.ok h51 w )) ?_
          refine S.qg rfl rfl rfl rfl rfl rfl g48 (r_not rfl) ?_
          refine S.qn rfl rfl rfl rfl (r_pickf rfl rfl g48) ?_
          refine S.qn rfl rfl rfl rfl (r_move rfl) ?_
          iterate 3 refine S.sk rfl rfl rfl (wf rfl rfl rfl g54) ?_
          iterate 9 refine S.sk rfl rfl rfl (wanted_undef rfl rfl rfl) ?_
          refine S.sk rfl rfl rfl (wf rfl rfl rfl g54) ?_
          refine S.qn rfl rfl rfl rfl (r_pick rfl rfl g54) ?_
          refine S.nil (F.nil ?_)
          cases hE_3
          refine Nrm.only [1, 24, 25, 26, 68] rfl ?_
          refine Nrm.pick [1] rfl rfl ?_
          exact hj_2 _ _ ⟨rfl, rfl⟩
         ·replace hE_3 := if_ff g54 hE_3
          rcases Bool.eq_false_or_eq_true (decide (x26 > 0)) with g57 | g57
          ·replace hE_3 := if_tt g57 hE_3
           obtain ⟨t62, h62, hE_3⟩ := bind_some hE_3
           obtain ⟨t65, h65, hE_3⟩ := bind_some hE_3
           refine Tri.drawA mixedT Sep.up [(0, true), (1, true), (2, true), (3, true), (4, true), (5, true), (6, true), (7, true), (8, true), (9, true), (10, true), (11, true), (12, true), (13, true), (14, true), (15, true), (16, true), (17, true), (18, true), (19, true), (20, true), (21, true), (22, true), (23, true), (24, true), (25, true), (26, true), (27, true), (28, true), (29, true), (30, true), (31, true), (32, true), (33, true), (34, true), (35, true), (36, true), (37, true)] [] (by kernel_rfl) ?_
           refine S.qn rfl rfl rfl rfl (r_indexAddrA Try.underlying121 ti3 rfl rfl (by decide) (by decide)) ?_
           refine S.qn rfl rfl rfl rfl (r_load ta3 rfl (fun w hw => cell_1 (box_cells (i := 0) rfl w hw) rfl)) ?_
           refine S.qn rfl rfl rfl rfl (r_lss rfl rfl) ?_
           refine S.qn rfl rfl rfl rfl (r_move rfl) ?_
           refine S.qg rfl rfl rfl rfl rfl rfl g34 (r_indexAddrA Try.underlying121 ti3 rfl rfl (by decide) (by decide)) ?_
           refine S.qg rfl rfl rfl rfl rfl rfl g34 (r_load ta3 rfl (fun w hw => cell_1 (box_cells (i := 0) rfl w hw) rfl)) ?_
           refine S.qg rfl rfl rfl rfl rfl rfl g34 (r_indexAddrA Try.underlying121 ti3 rfl rfl (by decide) (by decide)) ?_
           refine S.qg rfl rfl rfl rfl rfl rfl g34 (r_load ta3 rfl (fun w hw => cell_1 (box_cells (i := 0) rfl w hw) rfl)) ?_
           refine S.qg rfl rfl rfl rfl rfl rfl g34 (r_geq rfl rfl) ?_
           refine S.qn rfl rfl rfl rfl (r_pickf rfl rfl g34) ?_
           refine S.qn rfl rfl rfl rfl (r_move rfl) ?_
           refine S.qg rfl rfl rfl rfl rfl rfl g41 (r_indexAddrA Try.underlying121 ti3 rfl rfl (by decide) (by decide)) ?_
           refine S.qg rfl rfl rfl rfl rfl rfl g41 (r_load ta3 rfl (fun w hw => cell_1 (box_cells (i := 0) rfl w hw) rfl)) ?_
           refine S.qg rfl rfl rfl rfl rfl rfl g41 (r_fieldAddr tf27_0 rfl) ?_
           refine S.qg rfl rfl rfl rfl rfl rfl g41 (r_load ta3 rfl (fun w hw => cell_1 (box_cells (i := 1) rfl w hw) rfl)) ?_
           refine S.qg rfl rfl rfl rfl rfl rfl g41 (r_geq rfl rfl) ?_
           refine S.qn rfl rfl rfl rfl (r_pickf rfl rfl g41) ?_
           refine S.qn rfl rfl rfl rfl (r_move rfl) ?_
           refine S.qg rfl rfl rfl rfl rfl rfl g48 (r_indexAddrA Try.underlying121 ti3 rfl rfl (by decide) (by decide)) ?_
           refine S.qg rfl rfl rfl rfl rfl rfl g48 (r_load ta3 rfl (fun w hw => cell_1 (box_cells (i := 0) rfl w hw) rfl)) ?_
           refine S.qc rfl rfl rfl (wg rfl rfl rfl g48) (q_callF (xs := _) rfl ok101 rfl rfl (fun w hw => impl_isSet.ok h51 w )) ?_
           refine S.qg rfl rfl rfl rfl rfl rfl g48 (r_not rfl) ?_
           refine S.qn rfl rfl rfl rfl (r_pickf rfl rfl g48) ?_
           refine S.qn rfl rfl rfl rfl (r_move rfl) ?_
           refine S.qg rfl rfl rfl rfl rfl rfl g54 (r_move rfl) ?_
           refine S.qg rfl rfl rfl rfl rfl rfl g54 (r_gtr rfl rfl) ?_
           refine S.qg rfl rfl rfl rfl rfl rfl g54 (r_move rfl) ?_
           refine S.qg rfl rfl rfl rfl rfl rfl g57 (r_fieldAddr tf27_1 rfl) ?_
           refine S.qg rfl rfl rfl rfl rfl rfl g57 (r_load ta24 rfl (fun w hw => cell_1 (box_cells (i := 1) rfl w hw) rfl)) ?_
           refine S.qg rfl rfl rfl rfl rfl rfl g57 (r_move rfl) ?_
           refine S.qg rfl rfl rfl rfl rfl rfl g57 (r_sub rfl rfl) ?_
           refine S.qg rfl rfl rfl rfl rfl rfl g57 (r_indexAddrS Try.underlying24 ti121 rfl hl_va0_1 rfl (rdl_some h62).1 (rdl_some h62).2.1) ?_
           refine S.qg rfl rfl rfl rfl rfl rfl g57 (r_loadA ta121 ti121 rfl rfl (fun w hw => (Rd.flat ((fun _ hw => hr_a0_1.sep hw) w hw) (rdl_some h62).2.2))) ?_
           refine S.qg rfl rfl rfl rfl rfl rfl g57 (r_loadA ta121 ti121 rfl rfl (fun w hw => (box_cells (i := 0) rfl w hw))) ?_
           refine S.qc rfl rfl rfl (wg rfl rfl rfl g57) (q_callF (xs := _) rfl ok195 rfl rfl (fun w hw => impl_compareDoors.ok h65 w )) ?_
           refine S.qg rfl rfl rfl rfl rfl rfl g57 (r_geq rfl rfl) ?_
           refine S.qg rfl rfl rfl rfl rfl rfl g54 (r_pick rfl rfl g57) ?_
           refine S.qn rfl rfl rfl rfl (r_pickf rfl rfl g54) ?_
           refine S.nil (F.nil ?_)
           cases hE_3
           refine Nrm.only [1, 24, 25, 26, 68] rfl ?_
           refine Nrm.pick [1] rfl rfl ?_
           exact hj_2 _ _ ⟨rfl, rfl⟩
          ·replace hE_3 := if_ff g57 hE_3
           refine Tri.drawA mixedT Sep.up [(0, true), (1, true), (2, true), (3, true), (4, true), (5, true), (6, true), (7, true), (8, true), (9, true), (10, true), (11, true), (12, true), (13, true), (14, true), (15, true), (16, true), (17, true), (18, true), (19, true), (20, true), (21, true), (22, true), (23, true), (24, true), (25, true), (26, true), (27, true), (28, true), (29, true), (30, true), (31, true), (32, true), (33, true), (34, true), (35, true), (36, true), (37, true)] [] (by kernel_rfl) ?_
           refine S.qn rfl rfl rfl rfl (r_indexAddrA Try.underlying121 ti3 rfl rfl (by decide) (by decide)) ?_
           refine S.qn rfl rfl rfl rfl (r_load ta3 rfl (fun w hw => cell_1 (box_cells (i := 0) rfl w hw) rfl)) ?_
           refine S.qn rfl rfl rfl rfl (r_lss rfl rfl) ?_
           refine S.qn rfl rfl rfl rfl (r_move rfl) ?_
           refine S.qg rfl rfl rfl rfl rfl rfl g34 (r_indexAddrA Try.underlying121 ti3 rfl rfl (by decide) (by decide)) ?_
           refine S.qg rfl rfl rfl rfl rfl rfl g34 (r_load ta3 rfl (fun w hw => cell_1 (box_cells (i := 0) rfl w hw) rfl)) ?_
           refine S.qg rfl rfl rfl rfl rfl rfl g34 (r_indexAddrA Try.underlying121 ti3 rfl rfl (by decide) (by decide)) ?_
           refine S.qg rfl rfl rfl rfl rfl rfl g34 (r_load ta3 rfl (fun w hw => cell_1 (box_cells (i := 0) rfl w hw) rfl)) ?_
           refine S.qg rfl rfl rfl rfl rfl rfl g34 (r_geq rfl rfl) ?_
           refine S.qn rfl rfl rfl rfl (r_pickf rfl rfl g34) ?_
           refine S.qn rfl rfl rfl rfl (r_move rfl) ?_
           refine S.qg rfl rfl rfl rfl rfl rfl g41 (r_indexAddrA Try.underlying121 ti3 rfl rfl (by decide) (by decide)) ?_
           refine S.qg rfl rfl rfl rfl rfl rfl g41 (r_load ta3 rfl (fun w hw => cell_1 (box_cells (i := 0) rfl w hw) rfl)) ?_
           refine S.qg rfl rfl rfl rfl rfl rfl g41 (r_fieldAddr tf27_0 rfl) ?_
           refine S.qg rfl rfl rfl rfl rfl rfl g41 (r_load ta3 rfl (fun w hw => cell_1 (box_cells (i := 1) rfl w hw) rfl)) ?_
           refine S.qg rfl rfl rfl rfl rfl rfl g41 (r_geq rfl rfl) ?_
           refine S.qn rfl rfl rfl rfl (r_pickf rfl rfl g41) ?_
           refine S.qn rfl rfl rfl rfl (r_move rfl) ?_
           refine S.qg rfl rfl rfl rfl rfl rfl g48 (r_indexAddrA Try.underlying121 ti3 rfl rfl (by decide) (by decide)) ?_
           refine S.qg rfl rfl rfl rfl rfl rfl g48 (r_load ta3 rfl (fun w hw => cell_1 (box_cells (i := 0) rfl w hw) rfl)) ?_
           refine S.qc rfl rfl rfl (wg rfl rfl rfl g48) (q_callF (xs := _) rfl ok101 rfl rfl (fun w hw => impl_isSet.ok h51 w )) ?_
           refine S.qg rfl rfl rfl rfl rfl rfl g48 (r_not rfl) ?_
           refine S.qn rfl rfl rfl rfl (r_pickf rfl rfl g48) ?_
           refine S.qn rfl rfl rfl rfl (r_move rfl) ?_
           refine S.qg rfl rfl rfl rfl rfl rfl g54 (r_move rfl) ?_
           refine S.qg rfl rfl rfl rfl rfl rfl g54 (r_gtr rfl rfl) ?_
           refine S.qg rfl rfl rfl rfl rfl rfl g54 (r_move rfl) ?_
           iterate 9 refine S.sk rfl rfl rfl (wf rfl rfl rfl g57) ?_
           refine S.qg rfl rfl rfl rfl rfl rfl g54 (r_pickf rfl rfl g57) ?_
           refine S.qn rfl rfl rfl rfl (r_pickf rfl rfl g54) ?_
           refine S.nil (F.nil ?_)
           cases hE_3
           refine Nrm.only [1, 24, 25, 26, 68] rfl ?_
           refine Nrm.pick [1] rfl rfl ?_
           exact hj_2 _ _ ⟨rfl, rfl⟩
    ·replace hE_2 := if_ff g_2 hE_2
     refine Tri.exit ?_
     refine Exi.then ?_
     refine Exi.then ?_
     refine Exi.same ?_
     cases hE_2
     replace h := Lr_inl h
     refine Nrm.seq (Tri.seq ?_)
     obtain ⟨t72, h72, h⟩ := bind_some h
     refine Tri.reg (l := [0, 1, 2, 3, 4]) rfl ?_
     refine F.qn rfl rfl rfl rfl (r_fieldAddr tf27_2 rfl) ?_
     refine F.qn rfl rfl rfl rfl (r_load ta25 rfl (fun w hw => cell_1 (box_cells (i := 0) rfl w hw) rfl)) ?_
     refine F.qcn rfl rfl rfl rfl (q_callF (xs := _) rfl ok150 rfl rfl (fun w hw => slices_ContainsFunc_int_int.ok h72 w ((fun _ hw => hr_a0_2.sep hw) w hw) ok196 (fun w2 he2 z0 y2 hy2 => impl_IsMaze_1.ok hy2 w2 ))) ?_
     refine F.qn rfl rfl rfl rfl (r_not rfl) ?_
     refine F.qn rfl rfl rfl rfl (r_assign rfl) ?_
     refine F.nil (Nrm.seq (Tri.ret ?_))
     cases h
     exact Rtn.body (.tmp rfl .nil) (fun w hw => ⟨rfl, hw.ext⟩)
 ·obtain ⟨t7, h7, hE_1⟩ := bind_some hE_1
  rcases Bool.eq_false_or_eq_true (!t7) with g9 | g9
  ·replace hE_1 := if_tt g9 hE_1
   refine Tri.reg (l := List.range 18) rfl ?_
   refine F.qn rfl rfl rfl rfl (r_fieldAddr tf27_0 rfl) ?_
   refine F.qn rfl rfl rfl rfl (r_load ta3 rfl (fun w hw => cell_1 (box_cells (i := 0) rfl w hw) rfl)) ?_
   refine F.qcn rfl rfl rfl rfl (q_callF (xs := _) rfl ok149 rfl rfl (fun w hw => impl_within.ok h7 w )) ?_
   refine F.qn rfl rfl rfl rfl (r_not rfl) ?_
   refine F.qn rfl rfl rfl rfl (r_move rfl) ?_
   iterate 4 refine F.sk rfl rfl rfl (wf rfl rfl rfl g9) ?_
   refine F.qn rfl rfl rfl rfl (r_pick rfl rfl g9) ?_
   refine F.qn rfl rfl rfl rfl (r_move rfl) ?_
   iterate 6 refine F.sk rfl rfl rfl (wf rfl rfl rfl rfl) ?_
   refine F.qn rfl rfl rfl rfl (r_pick rfl rfl rfl) ?_
   refine F.nil ?_
   cases hE_1
   refine Nrm.only [1, 22] rfl ?_
   refine Nrm.pick [0] rfl rfl ?_
   exact hj_1 _ _ ⟨rfl, rfl⟩
  ·replace hE_1 := if_ff g9 hE_1
   rcases Bool.eq_false_or_eq_true (decide ((a0_1.length : Int) > 30)) with g15 | g15
   ·replace hE_1 := if_tt g15 hE_1
    refine Tri.reg (l := List.range 18) rfl ?_
    refine F.qn rfl rfl rfl rfl (r_fieldAddr tf27_0 rfl) ?_
    refine F.qn rfl rfl rfl rfl (r_load ta3 rfl (fun w hw => cell_1 (box_cells (i := 0) rfl w hw) rfl)) ?_
    refine F.qcn rfl rfl rfl rfl (q_callF (xs := _) rfl ok149 rfl rfl (fun w hw => impl_within.ok h7 w )) ?_
    refine F.qn rfl rfl rfl rfl (r_not rfl) ?_
    refine F.qn rfl rfl rfl rfl (r_move rfl) ?_
    refine F.qg rfl rfl rfl rfl rfl rfl g9 (r_fieldAddr tf27_1 rfl) ?_
    refine F.qg rfl rfl rfl rfl rfl rfl g9 (r_load ta24 rfl (fun w hw => cell_1 (box_cells (i := 0) rfl w hw) rfl)) ?_
    refine F.qg rfl rfl rfl rfl rfl rfl g9 (r_len Try.underlying24 rfl hl_va0_1) ?_
    refine F.qg rfl rfl rfl rfl rfl rfl g9 (r_gtr rfl rfl) ?_
    refine F.qn rfl rfl rfl rfl (r_pickf rfl rfl g9) ?_
    refine F.qn rfl rfl rfl rfl (r_move rfl) ?_
    iterate 6 refine F.sk rfl rfl rfl (wf rfl rfl rfl g15) ?_
    refine F.qn rfl rfl rfl rfl (r_pick rfl rfl g15) ?_
    refine F.nil ?_
    cases hE_1
    refine Nrm.only [1, 22] rfl ?_
    refine Nrm.pick [0] rfl rfl ?_
    exact hj_1 _ _ ⟨rfl, rfl⟩
   ·replace hE_1 := if_ff g15 hE_1
    refine Tri.reg (l := List.range 18) rfl ?_
    refine F.qn rfl rfl rfl rfl (r_fieldAddr tf27_0 rfl) ?_
    refine F.qn rfl rfl rfl rfl (r_load ta3 rfl (fun w hw => cell_1 (box_cells (i := 0) rfl w hw) rfl)) ?_
    refine F.qcn rfl rfl rfl rfl (q_callF (xs := _) rfl ok149 rfl rfl (fun w hw => impl_within.ok h7 w )) ?_
    refine F.qn rfl rfl rfl rfl (r_not rfl) ?_
    refine F.qn rfl rfl rfl rfl (r_move rfl) ?_
    refine F.qg rfl rfl rfl rfl rfl rfl g9 (r_fieldAddr tf27_1 rfl) ?_
    refine F.qg rfl rfl rfl rfl rfl rfl g9 (r_load ta24 rfl (fun w hw => cell_1 (box_cells (i := 0) rfl w hw) rfl)) ?_
    refine F.qg rfl rfl rfl rfl rfl rfl g9 (r_len Try.underlying24 rfl hl_va0_1) ?_
    refine F.qg rfl rfl rfl rfl rfl rfl g9 (r_gtr rfl rfl) ?_
    refine F.qn rfl rfl rfl rfl (r_pickf rfl rfl g9) ?_
    refine F.qn rfl rfl rfl rfl (r_move rfl) ?_
    refine F.qg rfl rfl rfl rfl rfl rfl g15 (r_fieldAddr tf27_2 rfl) ?_
    refine F.qg rfl rfl rfl rfl rfl rfl g15 (r_load ta25 rfl (fun w hw => cell_1 (box_cells (i := 0) rfl w hw) rfl)) ?_
    refine F.qg rfl rfl rfl rfl rfl rfl g15 (r_len Try.underlying25 rfl hl_va0_2) ?_
    refine F.qg rfl rfl rfl rfl rfl rfl g15 (r_fieldAddr tf27_0 rfl) ?_
    refine F.qg rfl rfl rfl rfl rfl rfl g15 (r_load ta3 rfl (fun w hw => cell_1 (box_cells (i := 0) rfl w hw) rfl)) ?_
    refine F.qg rfl rfl rfl rfl rfl rfl g15 (r_neq rfl rfl) ?_
    refine F.qn rfl rfl rfl rfl (r_pickf rfl rfl g15) ?_
    refine F.nil ?_
    cases hE_1
    refine Nrm.only [1, 22] rfl ?_
    refine Nrm.pick [0] rfl rfl ?_
    exact hj_1 _ _ ⟨rfl, rfl⟩


def impl_IsTrap.l0 (k : Nat) (a0_1 : List (Int × Int × Int)) (a0_3 : List Int) : Nat → Int → Option ((Unit) ⊕ (Bool))
 | 0, _ => none
 | n + 1, x12 => (if (decide (x12 < (a0_3.length : Int))) = true then (rdl a0_3 x12).bind fun t15 => ((impl_within.f k t15 0 (w64 ((a0_1.length : Int) - 1))).bind fun t23 => (if (!t23) = true then some true else (if (decide (x12 > 0)) = true then (rdl a0_3 (w64 (x12 - 1))).bind fun t34 => some (decide (t15 ≤ t34)) else some false))).bind fun y38 => (if y38 = true then some (Sum.inr false) else impl_IsTrap.l0 k a0_1 a0_3 n (w64 (x12 + 1))) else some (Sum.inl ()))

def impl_IsTrap.f (k : Nat) (a0_0 : Int) (a0_1 : List (Int × Int × Int)) (a0_2 : List Int) (a0_3 : List Int) : Option (Bool) := (impl_IsMaze.f k a0_0 a0_1 a0_2).bind fun t7 => (if (!t7) = true then some false else (impl_IsTrap.l0 k a0_1 a0_3 k 0).bind fun s => Lr s some fun _ => some true)

theorem impl_IsTrap.ok {k : Nat}  {a0_0 : Int} {a0_1 : List (Int × Int × Int)} {a0_2 : List Int} {a0_3 : List Int} {r0 : Bool} (h : impl_IsTrap.f k a0_0 a0_1 a0_2 a0_3 = some r0) (w : World) {va0_1 : Value} {va0_2 : Value} {va0_3 : Value} (hr_a0_1 : Rd w va0_1 a0_1) (hr_a0_2 : Rd w va0_2 a0_2) (hr_a0_3 : Rd w va0_3 a0_3) :
  Calls Try.prog 129 ([.agg ([.int .i64 a0_0, va0_1, va0_2, va0_3].toArray)] : List Value).toArray w (fun e w' => e = .returned (.bool r0) ∧ Ext w w') := by
 unfold impl_IsTrap.f at h
 have hl_va0_1 := hr_a0_1.len
 have hl_va0_2 := hr_a0_2.len
 have hl_va0_3 := hr_a0_3.len
 refine Calls.of_tri (N := 40) Try.func129 rfl rfl rfl (Sep.nil (M := noM)) ?_
 refine Tri.seq (Tri.reg (l := [0, 1]) rfl ?_)
 refine F.mn rfl rfl rfl rfl (m_boxG rfl rfl) ?_
 rintro _ _ ⟨b1_1, rfl, rfl⟩
 refine F.qn rfl rfl rfl rfl (r_assign rfl) ?_
 refine F.nil (Nrm.seq (Tri.seq (Tri.seq ?_)))
 obtain ⟨t7, h7, h⟩ := bind_some h
 refine Tri.reg (l := [0, 1, 2, 3]) rfl ?_
 refine F.qn rfl rfl rfl rfl (r_fieldAddr tf66_0 rfl) ?_
 refine F.qn rfl rfl rfl rfl (r_loadA ta27 ti27 rfl rfl (fun w hw => cells_1 (cs' := [.int .i64 a0_0, va0_1, va0_2]) (box_cells (i := 0) rfl w hw) rfl)) ?_
 refine F.qcn rfl rfl rfl rfl (q_callF (xs := _) rfl ok143 rfl rfl (fun w hw => impl_IsMaze.ok h7 w ((fun _ hw => hr_a0_1.sep hw) w hw) ((fun _ hw => hr_a0_2.sep hw) w hw))) ?_
 refine F.qn rfl rfl rfl rfl (r_not rfl) ?_
 refine F.nil (Nrm.seq (Tri.cond (b := !t7) rfl (fun g_1 => ?_) (fun g_1 => ?_)))
 ·replace h := if_tt g_1 h
  refine Tri.seq (Tri.reg (l := [0]) rfl ?_)
  refine F.qn rfl rfl rfl rfl (r_assign rfl) ?_
  refine F.nil (Nrm.seq (Tri.ret ?_))
  refine Rtn.then ?_
  cases h
  exact Rtn.body (.tmp rfl .nil) (fun w hw => ⟨rfl, hw.ext⟩)
 ·replace h := if_ff g_1 h
  refine Tri.skip (Nrm.seq (Tri.seq (Tri.seq (Tri.reg (l := [0, 1, 2, 3]) rfl ?_))))
  refine F.qn rfl rfl rfl rfl (r_fieldAddr tf66_1 rfl) ?_
  refine F.qn rfl rfl rfl rfl (r_load ta25 rfl (fun w hw => cell_1 (box_cells (i := 0) rfl w hw) rfl)) ?_
  refine F.qn rfl rfl rfl rfl (r_len Try.underlying25 rfl hl_va0_3) ?_
  refine F.qn rfl rfl rfl rfl (r_move rfl) ?_
  refine F.nil (Nrm.seq ?_)
  obtain ⟨s0, hE_1, h⟩ := bind_some h
  refine Tri.block ?_
  refine Tri.only [1, 10, 11, 12] rfl ?_
  refine Tri.pick [0] rfl rfl ?_
  refine Tri.rounds (fun n e' C' => ∃ (x12' : Int), impl_IsTrap.l0 k a0_1 a0_3 n x12' = some s0 ∧ e' = [(1, .pointer (some ⟨b1_1, 0, none⟩)), (10, va0_3), (11, .int .i64 (a0_3.length : Int)), (12, .int .i64 x12')] ∧ C' = Sep w noM [R.box b1_1 66 [.int .i64 a0_0, va0_1, va0_2, va0_3]]) k ?_ ?_ ?_
  ·exact ⟨0, hE_1, rfl, rfl⟩
  ·rintro _ _ ⟨_, hE_1, _⟩
   rw [impl_IsTrap.l0.eq_1] at hE_1; cases hE_1
  ·rintro n_1 _ _ ⟨x12, hE_1, rfl, rfl⟩ ih_1
   rw [impl_IsTrap.l0.eq_2] at hE_1
   refine Tri.seq (Tri.reg (l := [0]) rfl ?_)
   refine F.qn rfl rfl rfl rfl (r_lss rfl rfl) ?_
   refine F.nil (Nrm.seq (Tri.seq (Tri.cond (b := decide (x12 < (a0_3.length : Int))) rfl (fun g_2 => ?_) (fun g_2 => ?_))))
   ·replace hE_1 := if_tt g_2 hE_1
    refine Tri.skip (Nrm.seq (Tri.seq (Tri.block ?_)))
    refine Tri.seq ?_
    obtain ⟨t15, h15, hE_1⟩ := bind_some hE_1
    refine Tri.reg (l := [0, 1, 2, 3, 4]) rfl ?_
    refine F.qn rfl rfl rfl rfl (r_move rfl) ?_
    refine F.qn rfl rfl rfl rfl (r_indexAddrS Try.underlying25 ti3 rfl hl_va0_3 rfl (rdl_some h15).1 (rdl_some h15).2.1) ?_
    refine F.qn rfl rfl rfl rfl (r_load ta3 rfl (fun w hw => cell_0 (Rd.flat ((fun _ hw => hr_a0_3.sep hw) w hw) (rdl_some h15).2.2) rfl)) ?_
    refine F.qn rfl rfl rfl rfl (r_assign rfl) ?_
    refine F.qn rfl rfl rfl rfl (r_assign rfl) ?_
    refine F.nil (Nrm.seq (Tri.seq ?_))
    obtain ⟨y38, hE_2, hE_1⟩ := bind_some hE_1
    refine Tri.cut (fun e' C' => e' = [(1, .pointer (some ⟨b1_1, 0, none⟩)), (10, va0_3), (11, .int .i64 (a0_3.length : Int)), (12, .int .i64 x12), (38, .bool y38)] ∧ C' = Sep w noM [R.box b1_1 66 [.int .i64 a0_0, va0_1, va0_2, va0_3]]) ?_ (fun hj_1 => ?_)
    ·rintro _ _ ⟨rfl, rfl⟩
     refine Nrm.seq (Tri.cond (b := y38) rfl (fun g_3 => ?_) (fun g_3 => ?_))
     ·replace hE_1 := if_tt g_3 hE_1
      refine Tri.seq (Tri.reg (l := [0]) rfl ?_)
      refine F.qn rfl rfl rfl rfl (r_assign rfl) ?_
      refine F.nil (Nrm.seq (Tri.ret ?_))
      refine Rtn.block ?_
      refine Rtn.then ?_
      refine Rtn.then ?_
      refine Rtn.block ?_
      refine Rtn.then ?_
      cases hE_1
      replace h := Lr_inr h
      cases h
      exact Rtn.body (.tmp rfl .nil) (fun w hw => ⟨rfl, hw.ext⟩)
     ·replace hE_1 := if_ff g_3 hE_1
      refine Tri.skip (Nrm.block ?_)
      refine Nrm.seq (Tri.reg (l := [0, 1]) rfl ?_)
      refine F.qn rfl rfl rfl rfl (r_add rfl rfl) ?_
      refine F.qn rfl rfl rfl rfl (r_move rfl) ?_
      refine F.nil (Nrm.round ?_)
      refine Rnd.only [1, 10, 11, 12] rfl ?_
      refine Rnd.pick [0] rfl rfl ?_
      exact ih_1 _ _ ⟨w64 (x12 + 1), hE_1, rfl, rfl⟩
    ·obtain ⟨t23, h23, hE_2⟩ := bind_some hE_2
     rcases Bool.eq_false_or_eq_true (!t23) with g25 | g25
     ·replace hE_2 := if_tt g25 hE_2
      refine Tri.reg (l := List.range 22) rfl ?_
      refine F.qn rfl rfl rfl rfl (r_move rfl) ?_
      refine F.qn rfl rfl rfl rfl (r_fieldAddr tf66_0 rfl) ?_
      refine F.qn rfl rfl rfl rfl (r_fieldAddr tf27_1 rfl) ?_
      refine F.qn rfl rfl rfl rfl (r_load ta24 rfl (fun w hw => cell_2 (box_cells (i := 0) rfl w hw) rfl)) ?_
      refine F.qn rfl rfl rfl rfl (r_len Try.underlying24 rfl hl_va0_1) ?_
      refine F.qn rfl rfl rfl rfl (r_sub rfl rfl) ?_
      refine F.qcn rfl rfl rfl rfl (q_callF (xs := _) rfl ok149 rfl rfl (fun w hw => impl_within.ok h23 w )) ?_
      refine F.qn rfl rfl rfl rfl (r_not rfl) ?_
      refine F.qn rfl rfl rfl rfl (r_move rfl) ?_
      iterate 3 refine F.sk rfl rfl rfl (wf rfl rfl rfl g25) ?_
      iterate 8 refine F.sk rfl rfl rfl (wanted_undef rfl rfl rfl) ?_
      refine F.sk rfl rfl rfl (wf rfl rfl rfl g25) ?_
      refine F.qn rfl rfl rfl rfl (r_pick rfl rfl g25) ?_
      refine F.nil ?_
      cases hE_2
      refine Nrm.only [1, 10, 11, 12, 38] rfl ?_
      refine Nrm.pick [0] rfl rfl ?_
      exact hj_1 _ _ ⟨rfl, rfl⟩
     ·replace hE_2 := if_ff g25 hE_2
      rcases Bool.eq_false_or_eq_true (decide (x12 > 0)) with g28 | g28
      ·replace hE_2 := if_tt g28 hE_2
       obtain ⟨t34, h34, hE_2⟩ := bind_some hE_2
       refine Tri.reg (l := List.range 22) rfl ?_
       refine F.qn rfl rfl rfl rfl (r_move rfl) ?_
       refine F.qn rfl rfl rfl rfl (r_fieldAddr tf66_0 rfl) ?_
       refine F.qn rfl rfl rfl rfl (r_fieldAddr tf27_1 rfl) ?_
       refine F.qn rfl rfl rfl rfl (r_load ta24 rfl (fun w hw => cell_2 (box_cells (i := 0) rfl w hw) rfl)) ?_
       refine F.qn rfl rfl rfl rfl (r_len Try.underlying24 rfl hl_va0_1) ?_
       refine F.qn rfl rfl rfl rfl (r_sub rfl rfl) ?_
       refine F.qcn rfl rfl rfl rfl (q_callF (xs := _) rfl ok149 rfl rfl (fun w hw => impl_within.ok h23 w )) ?_
       refine F.qn rfl rfl rfl rfl (r_not rfl) ?_
       refine F.qn rfl rfl rfl rfl (r_move rfl) ?_
       refine F.qg rfl rfl rfl rfl rfl rfl g25 (r_move rfl) ?_
       refine F.qg rfl rfl rfl rfl rfl rfl g25 (r_gtr rfl rfl) ?_
       refine F.qg rfl rfl rfl rfl rfl rfl g25 (r_move rfl) ?_
       refine F.qg rfl rfl rfl rfl rfl rfl g28 (r_move rfl) ?_
       refine F.qg rfl rfl rfl rfl rfl rfl g28 (r_fieldAddr tf66_1 rfl) ?_
       refine F.qg rfl rfl rfl rfl rfl rfl g28 (r_load ta25 rfl (fun w hw => cell_1 (box_cells (i := 0) rfl w hw) rfl)) ?_
       refine F.qg rfl rfl rfl rfl rfl rfl g28 (r_move rfl) ?_
       refine F.qg rfl rfl rfl rfl rfl rfl g28 (r_sub rfl rfl) ?_
       refine F.qg rfl rfl rfl rfl rfl rfl g28 (r_indexAddrS Try.underlying25 ti3 rfl hl_va0_3 rfl (rdl_some h34).1 (rdl_some h34).2.1) ?_
       refine F.qg rfl rfl rfl rfl rfl rfl g28 (r_load ta3 rfl (fun w hw => cell_0 (Rd.flat ((fun _ hw => hr_a0_3.sep hw) w hw) (rdl_some h34).2.2) rfl)) ?_
       refine F.qg rfl rfl rfl rfl rfl rfl g28 (r_leq rfl rfl) ?_
       refine F.qg rfl rfl rfl rfl rfl rfl g25 (r_pick rfl rfl g28) ?_
       refine F.qn rfl rfl rfl rfl (r_pickf rfl rfl g25) ?_
       refine F.nil ?_
       cases hE_2
       refine Nrm.only [1, 10, 11, 12, 38] rfl ?_
       refine Nrm.pick [0] rfl rfl ?_
       exact hj_1 _ _ ⟨rfl, rfl⟩
      ·replace hE_2 := if_ff g28 hE_2
       refine Tri.reg (l := List.range 22) rfl ?_
       refine F.qn rfl rfl rfl rfl (r_move rfl) ?_
       refine F.qn rfl rfl rfl rfl (r_fieldAddr tf66_0 rfl) ?_
       refine F.qn rfl rfl rfl rfl (r_fieldAddr tf27_1 rfl) ?_
       refine F.qn rfl rfl rfl rfl (r_load ta24 rfl (fun w hw => cell_2 (box_cells (i := 0) rfl w hw) rfl)) ?_
       refine F.qn rfl rfl rfl rfl (r_len Try.underlying24 rfl hl_va0_1) ?_
       refine F.qn rfl rfl rfl rfl (r_sub rfl rfl) ?_
       refine F.qcn rfl rfl rfl rfl (q_callF (xs := _) rfl ok149 rfl rfl (fun w hw => impl_within.ok h23 w )) ?_
       refine F.qn rfl rfl rfl rfl (r_not rfl) ?_
       refine F.qn rfl rfl rfl rfl (r_move rfl) ?_
       refine F.qg rfl rfl rfl rfl rfl rfl g25 (r_move rfl) ?_
       refine F.qg rfl rfl rfl rfl rfl rfl g25 (r_gtr rfl rfl) ?_
       refine F.qg rfl rfl rfl rfl rfl rfl g25 (r_move rfl) ?_
       iterate 8 refine F.sk rfl rfl rfl (wf rfl rfl rfl g28) ?_
       refine F.qg rfl rfl rfl rfl rfl rfl g25 (r_pickf rfl rfl g28) ?_
       refine F.qn rfl rfl rfl rfl (r_pickf rfl rfl g25) ?_
       refine F.nil ?_
       cases hE_2
       refine Nrm.only [1, 10, 11, 12, 38] rfl ?_
       refine Nrm.pick [0] rfl rfl ?_
       exact hj_1 _ _ ⟨rfl, rfl⟩
   ·replace hE_1 := if_ff g_2 hE_1
    refine Tri.exit ?_
    refine Exi.then ?_
    refine Exi.then ?_
    refine Exi.same ?_
    cases hE_1
    replace h := Lr_inl h
    refine Nrm.seq (Tri.seq (Tri.reg (l := [0]) rfl ?_))
    refine F.qn rfl rfl rfl rfl (r_assign rfl) ?_
    refine F.nil (Nrm.seq (Tri.ret ?_))
    cases h
    exact Rtn.body (.tmp rfl .nil) (fun w hw => ⟨rfl, hw.ext⟩)


def slices_Index_int_int.l0 (k : Nat) (a0 : List Int) (a1 : Int) : Nat → Int → Option ((Unit) ⊕ (Int))
 | 0, _ => none
 | n + 1, x8 => (if (decide (x8 < (a0.length : Int))) = true then (rdl a0 x8).bind fun t14 => (if (a1 == t14) = true then some (Sum.inr x8) else slices_Index_int_int.l0 k a0 a1 n (w64 (x8 + 1))) else some (Sum.inl ()))

def slices_Index_int_int.f (k : Nat) (a0 : List Int) (a1 : Int) : Option (Int) := (slices_Index_int_int.l0 k a0 a1 k 0).bind fun s => Lr s some fun _ => some (-1)

theorem slices_Index_int_int.ok {k : Nat}  {a0 : List Int} {a1 : Int} {r0 : Int} (h : slices_Index_int_int.f k a0 a1 = some r0) (w : World) {va0 : Value} (hr_a0 : Rd w va0 a0) :
  Calls Try.prog 97 ([va0, .int .i64 a1] : List Value).toArray w (fun e w' => e = .returned (.int .i64 r0) ∧ Ext w w') := by
 unfold slices_Index_int_int.f at h
 have hl_va0 := hr_a0.len
 refine Calls.of_tri (N := 19) Try.func97 rfl rfl rfl (Sep.nil (M := noM)) ?_
 refine Tri.seq (Tri.reg (l := [0]) rfl ?_)
 refine F.qn rfl rfl rfl rfl (r_assign rfl) ?_
 refine F.nil (Nrm.seq (Tri.seq (Tri.seq (Tri.reg (l := [0, 1, 2]) rfl ?_))))
 refine F.qn rfl rfl rfl rfl (r_move rfl) ?_
 refine F.qn rfl rfl rfl rfl (r_len Try.underlying25 rfl hl_va0) ?_
 refine F.qn rfl rfl rfl rfl (r_move rfl) ?_
 refine F.nil (Nrm.seq ?_)
 obtain ⟨s0, hE_1, h⟩ := bind_some h
 refine Tri.block ?_
 refine Tri.only [0, 1, 7, 8] rfl ?_
 refine Tri.pick [] rfl rfl ?_
 refine Tri.rounds (fun n e' C' => ∃ (x8' : Int), slices_Index_int_int.l0 k a0 a1 n x8' = some s0 ∧ e' = [(0, va0), (1, .int .i64 a1), (7, .int .i64 (a0.length : Int)), (8, .int .i64 x8')] ∧ C' = Sep w noM []) k ?_ ?_ ?_
 ·exact ⟨0, hE_1, rfl, rfl⟩
 ·rintro _ _ ⟨_, hE_1, _⟩
  rw [slices_Index_int_int.l0.eq_1] at hE_1; cases hE_1
 ·rintro n_1 _ _ ⟨x8, hE_1, rfl, rfl⟩ ih_1
  rw [slices_Index_int_int.l0.eq_2] at hE_1
  refine Tri.seq (Tri.reg (l := [0]) rfl ?_)
  refine F.qn rfl rfl rfl rfl (r_lss rfl rfl) ?_
  refine F.nil (Nrm.seq (Tri.seq (Tri.cond (b := decide (x8 < (a0.length : Int))) rfl (fun g_1 => ?_) (fun g_1 => ?_))))
  ·replace hE_1 := if_tt g_1 hE_1
   refine Tri.skip (Nrm.seq (Tri.seq (Tri.block ?_)))
   refine Tri.seq (Tri.reg (l := [0, 1]) rfl ?_)
   refine F.qn rfl rfl rfl rfl (r_move rfl) ?_
   refine F.qn rfl rfl rfl rfl (r_assign rfl) ?_
   refine F.nil (Nrm.seq (Tri.seq ?_))
   obtain ⟨t14, h14, hE_1⟩ := bind_some hE_1
   refine Tri.reg (l := [0, 1, 2, 3, 4, 5]) rfl ?_
   iterate 3 refine F.qn rfl rfl rfl rfl (r_move rfl) ?_
   refine F.qn rfl rfl rfl rfl (r_indexAddrS Try.underlying25 ti3 rfl hl_va0 rfl (rdl_some h14).1 (rdl_some h14).2.1) ?_
   refine F.qn rfl rfl rfl rfl (r_load ta3 rfl (fun w hw => cell_0 (Rd.flat ((fun _ hw => hr_a0.sep hw) w hw) (rdl_some h14).2.2) rfl)) ?_
   refine F.qn rfl rfl rfl rfl (r_eql rfl rfl) ?_
   refine F.nil (Nrm.seq (Tri.cond (b := a1 == t14) rfl (fun g_2 => ?_) (fun g_2 => ?_)))
   ·replace hE_1 := if_tt g_2 hE_1
    refine Tri.seq (Tri.reg (l := [0, 1]) rfl ?_)
    refine F.qn rfl rfl rfl rfl (r_move rfl) ?_
    refine F.qn rfl rfl rfl rfl (r_assign rfl) ?_
    refine F.nil (Nrm.seq (Tri.ret ?_))
    refine Rtn.block ?_
    refine Rtn.then ?_
    refine Rtn.then ?_
    refine Rtn.block ?_
    refine Rtn.then ?_
    cases hE_1
    replace h := Lr_inr h
    cases h
    exact Rtn.body (.tmp rfl .nil) (fun w hw => ⟨rfl, hw.ext⟩)
   ·replace hE_1 := if_ff g_2 hE_1
    refine Tri.skip (Nrm.block ?_)
    refine Nrm.seq (Tri.reg (l := [0, 1]) rfl ?_)
    refine F.qn rfl rfl rfl rfl (r_add rfl rfl) ?_
    refine F.qn rfl rfl rfl rfl (r_move rfl) ?_
    refine F.nil (Nrm.round ?_)
    refine Rnd.only [0, 1, 7, 8] rfl ?_
    refine Rnd.pick [] rfl rfl ?_
    exact ih_1 _ _ ⟨w64 (x8 + 1), hE_1, rfl, rfl⟩
  ·replace hE_1 := if_ff g_1 hE_1
   refine Tri.exit ?_
   refine Exi.then ?_
   refine Exi.then ?_
   refine Exi.same ?_
   cases hE_1
   replace h := Lr_inl h
   refine Nrm.seq (Tri.seq (Tri.reg (l := [0]) rfl ?_))
   refine F.qn rfl rfl rfl rfl (r_assign rfl) ?_
   refine F.nil (Nrm.seq (Tri.ret ?_))
   cases h
   exact Rtn.body (.tmp rfl .nil) (fun w hw => ⟨rfl, hw.ext⟩)


def slices_Contains_int_int.f (k : Nat) (a0 : List Int) (a1 : Int) : Option (Bool) := (slices_Index_int_int.f k a0 a1).bind fun t7 => some (decide (t7 ≥ 0))

theorem slices_Contains_int_int.ok {k : Nat}  {a0 : List Int} {a1 : Int} {r0 : Bool} (h : slices_Contains_int_int.f k a0 a1 = some r0) (w : World) {va0 : Value} (hr_a0 : Rd w va0 a0) :
  Calls Try.prog 153 ([va0, .int .i64 a1] : List Value).toArray w (fun e w' => e = .returned (.bool r0) ∧ Ext w w') := by
 unfold slices_Contains_int_int.f at h
 have hl_va0 := hr_a0.len
 refine Calls.of_tri (N := 9) Try.func153 rfl rfl rfl (Sep.nil (M := noM)) ?_
 refine Tri.seq (Tri.reg (l := [0]) rfl ?_)
 refine F.qn rfl rfl rfl rfl (r_assign rfl) ?_
 refine F.nil (Nrm.seq (Tri.seq ?_))
 obtain ⟨t7, h7, h⟩ := bind_some h
 refine Tri.reg (l := [0, 1, 2, 3, 4]) rfl ?_
 refine F.qn rfl rfl rfl rfl (r_move rfl) ?_
 refine F.qn rfl rfl rfl rfl (r_move rfl) ?_
 refine F.qcn rfl rfl rfl rfl (q_callF (xs := _) rfl ok97 rfl rfl (fun w hw => slices_Index_int_int.ok h7 w ((fun _ hw => hr_a0.sep hw) w hw))) ?_
 refine F.qn rfl rfl rfl rfl (r_geq rfl rfl) ?_
 refine F.qn rfl rfl rfl rfl (r_assign rfl) ?_
 refine F.nil (Nrm.seq (Tri.ret ?_))
 cases h
 exact Rtn.body (.tmp rfl .nil) (fun w hw => ⟨rfl, hw.ext⟩)


def impl_has.f (k : Nat) (a0 : Int) (a1 : Int) : Option (Bool) := some ((bclr a1 a0) == 0)

theorem impl_has.ok {k : Nat}  {a0 : Int} {a1 : Int} {r0 : Bool} (h : impl_has.f k a0 a1 = some r0) (w : World) :
  Calls Try.prog 189 ([.int .i64 a0, .int .i64 a1] : List Value).toArray w (fun e w' => e = .returned (.bool r0) ∧ Ext w w') := by
 unfold impl_has.f at h
 refine Calls.of_tri (N := 9) Try.func189 rfl rfl rfl (Sep.nil (M := noM)) ?_
 refine Tri.seq (Tri.reg (l := [0]) rfl ?_)
 refine F.qn rfl rfl rfl rfl (r_assign rfl) ?_
 refine F.nil (Nrm.seq (Tri.seq (Tri.reg (l := [0, 1, 2, 3, 4]) rfl ?_)))
 refine F.qn rfl rfl rfl rfl (r_move rfl) ?_
 refine F.qn rfl rfl rfl rfl (r_move rfl) ?_
 refine F.qn rfl rfl rfl rfl (r_andNot rfl rfl) ?_
 refine F.qn rfl rfl rfl rfl (r_eql rfl rfl) ?_
 refine F.qn rfl rfl rfl rfl (r_assign rfl) ?_
 refine F.nil (Nrm.seq (Tri.ret ?_))
 cases h
 exact Rtn.body (.tmp rfl .nil) (fun w hw => ⟨rfl, hw.ext⟩)


def impl_trapSteps.l0 (k : Nat) (a0_1 : List (Int × Int × Int)) (a0_3 : List Int) (a1 : Int) (a2 : Int) : Nat → Int → Int → Option (Int)
 | 0, _, _ => none
 | n + 1, x7, x14 => (if (decide (x14 < (a0_1.length : Int))) = true then ((rdl a0_1 x14).bind fun t17 => (impl_has.f k a2 t17.2.2).bind fun t22 => (if (!t22) = true then some x7 else ((if (t17.1 == a1) = true then if ¬ t17.2.1 < 0 then some (bor x7 (shl 1 t17.2.1)) else none else some x7)).bind fun y7 => ((if (t17.2.1 == a1) = true then (slices_Contains_int_int.f k a0_3 x14).bind fun t41 => some (!t41) else some false)).bind fun y43 => ((if y43 = true then if ¬ t17.1 < 0 then some (bor y7 (shl 1 t17.1)) else none else some y7)).bind fun y7r => some y7r)).bind fun y7 => impl_trapSteps.l0 k a0_1 a0_3 a1 a2 n y7 (w64 (x14 + 1)) else some x7)

def impl_trapSteps.f (k : Nat) (a0_0 : Int) (a0_1 : List (Int × Int × Int)) (a0_2 : List Int) (a0_3 : List Int) (a1 : Int) (a2 : Int) : Option (Int) := (impl_trapSteps.l0 k a0_1 a0_3 a1 a2 k 0 0).bind fun x7 => some x7

theorem impl_trapSteps.ok {k : Nat}  {a0_0 : Int} {a0_1 : List (Int × Int × Int)} {a0_2 : List Int} {a0_3 : List Int} {a1 : Int} {a2 : Int} {r0 : Int} (h : impl_trapSteps.f k a0_0 a0_1 a0_2 a0_3 a1 a2 = some r0) (w : World) {va0_1 : Value} {va0_2 : Value} {va0_3 : Value} (hr_a0_1 : Rd w va0_1 a0_1) (hr_a0_2 : Rd w va0_2 a0_2) (hr_a0_3 : Rd w va0_3 a0_3) :
  Calls Try.prog 124 ([.agg ([.int .i64 a0_0, va0_1, va0_2, va0_3].toArray), .int .i64 a1, .int .i64 a2] : List Value).toArray w (fun e w' => e = .returned (.int .i64 r0) ∧ Ext w w') := by
 unfold impl_trapSteps.f at h
 have hl_va0_1 := hr_a0_1.len
 have hl_va0_2 := hr_a0_2.len
 have hl_va0_3 := hr_a0_3.len
 refine Calls.of_tri (N := 51) Try.func124 rfl rfl rfl (Sep.nil (M := noM)) ?_
 refine Tri.seq (Tri.reg (l := [0, 1]) rfl ?_)
 refine F.mn rfl rfl rfl rfl (m_boxG rfl rfl) ?_
 rintro _ _ ⟨b3_1, rfl, rfl⟩
 refine F.qn rfl rfl rfl rfl (r_assign rfl) ?_
 refine F.nil (Nrm.seq (Tri.seq (Tri.reg (l := [0]) rfl ?_)))
 refine F.qn rfl rfl rfl rfl (r_assign rfl) ?_
 refine F.nil (Nrm.seq (Tri.seq (Tri.seq (Tri.reg (l := [0, 1, 2, 3, 4]) rfl ?_))))
 refine F.qn rfl rfl rfl rfl (r_fieldAddr tf66_0 rfl) ?_
 refine F.qn rfl rfl rfl rfl (r_fieldAddr tf27_1 rfl) ?_
 refine F.qn rfl rfl rfl rfl (r_load ta24 rfl (fun w hw => cell_2 (box_cells (i := 0) rfl w hw) rfl)) ?_
 refine F.qn rfl rfl rfl rfl (r_len Try.underlying24 rfl hl_va0_1) ?_
 refine F.qn rfl rfl rfl rfl (r_move rfl) ?_
 refine F.nil (Nrm.seq ?_)
 obtain ⟨x7, hE_1, h⟩ := bind_some h
 refine Tri.block ?_
 refine Tri.only [1, 2, 3, 7, 12, 13, 14] rfl ?_
 refine Tri.pick [0] rfl rfl ?_
 refine Tri.rounds (fun n e' C' => ∃ (x7' : Int) (x14' : Int), impl_trapSteps.l0 k a0_1 a0_3 a1 a2 n x7' x14' = some x7 ∧ e' = [(1, .int .i64 a1), (2, .int .i64 a2), (3, .pointer (some ⟨b3_1, 0, none⟩)), (7, .int .i64 x7'), (12, va0_1), (13, .int .i64 (a0_1.length : Int)), (14, .int .i64 x14')] ∧ C' = Sep w noM [R.box b3_1 66 [.int .i64 a0_0, va0_1, va0_2, va0_3]]) k ?_ ?_ ?_
 ·exact ⟨0, 0, hE_1, rfl, rfl⟩
 ·rintro _ _ ⟨_, _, hE_1, _⟩
  rw [impl_trapSteps.l0.eq_1] at hE_1; cases hE_1
 ·rintro n_1 _ _ ⟨x7, x14, hE_1, rfl, rfl⟩ ih_1
  rw [impl_trapSteps.l0.eq_2] at hE_1
  refine Tri.seq (Tri.reg (l := [0]) rfl ?_)
  refine F.qn rfl rfl rfl rfl (r_lss rfl rfl) ?_
  refine F.nil (Nrm.seq (Tri.seq (Tri.cond (b := decide (x14 < (a0_1.length : Int))) rfl (fun g_1 => ?_) (fun g_1 => ?_))))
  ·replace hE_1 := if_tt g_1 hE_1
   refine Tri.skip (Nrm.seq (Tri.seq ?_))
   obtain ⟨y7, hE_2, hE_1⟩ := bind_some hE_1
   refine Tri.cut (fun e' C' => e' = [(1, .int .i64 a1), (2, .int .i64 a2), (3, .pointer (some ⟨b3_1, 0, none⟩)), (7, .int .i64 y7), (12, va0_1), (13, .int .i64 (a0_1.length : Int)), (14, .int .i64 x14)] ∧ C' = Sep w noM [R.box b3_1 66 [.int .i64 a0_0, va0_1, va0_2, va0_3]]) ?_ (fun hj_1 => ?_)
   ·rintro _ _ ⟨rfl, rfl⟩
    refine Nrm.seq (Tri.reg (l := [0, 1]) rfl ?_)
    refine F.qn rfl rfl rfl rfl (r_add rfl rfl) ?_
    refine F.qn rfl rfl rfl rfl (r_move rfl) ?_
    refine F.nil (Nrm.round ?_)
    refine Rnd.only [1, 2, 3, 7, 12, 13, 14] rfl ?_
    refine Rnd.pick [0] rfl rfl ?_
    exact ih_1 _ _ ⟨y7, w64 (x14 + 1), hE_1, rfl, rfl⟩
   ·refine Tri.block ?_
    refine Tri.seq ?_
    obtain ⟨t17, h17, hE_2⟩ := bind_some hE_2
    refine Tri.reg (l := [0, 1, 2, 3, 4, 5]) rfl ?_
    refine F.qn rfl rfl rfl rfl (r_move rfl) ?_
    refine F.qn rfl rfl rfl rfl (r_indexAddrS Try.underlying24 ti121 rfl hl_va0_1 rfl (rdl_some h17).1 (rdl_some h17).2.1) ?_
    refine F.qn rfl rfl rfl rfl (r_loadA ta121 ti121 rfl rfl (fun w hw => (Rd.flat ((fun _ hw => hr_a0_1.sep hw) w hw) (rdl_some h17).2.2))) ?_
    refine F.mn rfl rfl rfl rfl (m_alloc ti121) ?_
    rintro _ _ ⟨b9_1, rfl, rfl⟩
    refine F.qn rfl rfl rfl rfl (r_assign rfl) ?_
    refine F.ef0 rfl rfl (wanted_none rfl) (d_storeG0 (i := 0) (cs2 := [.int .i64 t17.1, .int .i64 t17.2.1, .int .i64 t17.2.2]) ti121 rfl rfl rfl rfl rfl (Nat.le_of_ble_eq_true rfl) (lf_cons rfl (lf_cons rfl (lf_cons rfl lf_nil)))) ?_
    rintro _ _ ⟨rfl, rfl⟩
    refine F.nil (Nrm.seq (Tri.seq (Tri.seq ?_)))
    obtain ⟨t22, h22, hE_2⟩ := bind_some hE_2
    refine Tri.reg (l := [0, 1, 2, 3, 4]) rfl ?_
    refine F.qn rfl rfl rfl rfl (r_move rfl) ?_
    refine F.qn rfl rfl rfl rfl (r_indexAddrA Try.underlying121 ti3 rfl rfl (by decide) (by decide)) ?_
    refine F.qn rfl rfl rfl rfl (r_load ta3 rfl (fun w hw => cell_1 (box_cells (i := 0) rfl w hw) rfl)) ?_
    refine F.qcn rfl rfl rfl rfl (q_callF (xs := _) rfl ok189 rfl rfl (fun w hw => impl_has.ok h22 w )) ?_
    refine F.qn rfl rfl rfl rfl (r_not rfl) ?_
    refine F.nil (Nrm.seq (Tri.cond (b := !t22) rfl (fun g_2 => ?_) (fun g_2 => ?_)))
    ·replace hE_2 := if_tt g_2 hE_2
     refine Tri.exit ?_
     refine Exi.then ?_
     refine Exi.same ?_
     cases hE_2
     refine Nrm.only [1, 2, 3, 7, 12, 13, 14] rfl ?_
     refine Nrm.pick [1] rfl rfl ?_
     exact hj_1 _ _ ⟨rfl, rfl⟩
    ·replace hE_2 := if_ff g_2 hE_2
     refine Tri.skip (Nrm.seq (Tri.seq (Tri.seq (Tri.reg (l := [0, 1, 2, 3]) rfl ?_))))
     refine F.qn rfl rfl rfl rfl (r_indexAddrA Try.underlying121 ti3 rfl rfl (by decide) (by decide)) ?_
     refine F.qn rfl rfl rfl rfl (r_load ta3 rfl (fun w hw => cell_1 (box_cells (i := 0) rfl w hw) rfl)) ?_
     refine F.qn rfl rfl rfl rfl (r_move rfl) ?_
     refine F.qn rfl rfl rfl rfl (r_eql rfl rfl) ?_
     refine F.nil (Nrm.seq ?_)
     obtain ⟨y7, hE_3, hE_2⟩ := bind_some hE_2
     refine Tri.cut (fun e' C' => e' = [(1, .int .i64 a1), (2, .int .i64 a2), (3, .pointer (some ⟨b3_1, 0, none⟩)), (7, .int .i64 y7), (8, .int .i64 x14), (9, .pointer (some ⟨b9_1, 0, none⟩)), (12, va0_1), (13, .int .i64 (a0_1.length : Int)), (14, .int .i64 x14)] ∧ C' = Sep w noM [R.box b9_1 121 [.int .i64 t17.1, .int .i64 t17.2.1, .int .i64 t17.2.2], R.box b3_1 66 [.int .i64 a0_0, va0_1, va0_2, va0_3]]) ?_ (fun hj_2 => ?_)
     ·rintro _ _ ⟨rfl, rfl⟩
      refine Nrm.seq (Tri.seq ?_)
      obtain ⟨y43, hE_4, hE_2⟩ := bind_some hE_2
      refine Tri.cut (fun e' C' => e' = [(1, .int .i64 a1), (2, .int .i64 a2), (3, .pointer (some ⟨b3_1, 0, none⟩)), (7, .int .i64 y7), (9, .pointer (some ⟨b9_1, 0, none⟩)), (12, va0_1), (13, .int .i64 (a0_1.length : Int)), (14, .int .i64 x14), (43, .bool y43)] ∧ C' = Sep w noM [R.box b9_1 121 [.int .i64 t17.1, .int .i64 t17.2.1, .int .i64 t17.2.2], R.box b3_1 66 [.int .i64 a0_0, va0_1, va0_2, va0_3]]) ?_ (fun hj_3 => ?_)
      ·rintro _ _ ⟨rfl, rfl⟩
       refine Nrm.seq ?_
       obtain ⟨y7r, hE_5, hE_2⟩ := bind_some hE_2
       refine Tri.cut (fun e' C' => e' = [(1, .int .i64 a1), (2, .int .i64 a2), (3, .pointer (some ⟨b3_1, 0, none⟩)), (7, .int .i64 y7r), (12, va0_1), (13, .int .i64 (a0_1.length : Int)), (14, .int .i64 x14)] ∧ C' = Sep w noM [R.box b3_1 66 [.int .i64 a0_0, va0_1, va0_2, va0_3]]) ?_ (fun hj_4 => ?_)
       ·rintro _ _ ⟨rfl, rfl⟩
        refine Nrm.block ?_
        cases hE_2
        refine Nrm.only [1, 2, 3, 7, 12, 13, 14] rfl ?_
        refine Nrm.pick [0] rfl rfl ?_
        exact hj_1 _ _ ⟨rfl, rfl⟩
       ·refine Tri.cond (b := y43) rfl (fun g_4 => ?_) (fun g_4 => ?_)
        ·replace hE_5 := if_tt g_4 hE_5
         obtain ⟨hs47, hE_5⟩ := ck hE_5
         refine Tri.reg (l := [0, 1, 2, 3, 4, 5]) rfl ?_
         refine F.qn rfl rfl rfl rfl (r_move rfl) ?_
         refine F.qn rfl rfl rfl rfl (r_indexAddrA Try.underlying121 ti3 rfl rfl (by decide) (by decide)) ?_
         refine F.qn rfl rfl rfl rfl (r_load ta3 rfl (fun w hw => cell_1 (box_cells (i := 0) rfl w hw) rfl)) ?_
         refine F.qn rfl rfl rfl rfl (r_shl rfl rfl hs47) ?_
         refine F.qn rfl rfl rfl rfl (r_or rfl rfl) ?_
         refine F.qn rfl rfl rfl rfl (r_assign rfl) ?_
         refine F.nil ?_
         cases hE_5
         refine Nrm.only [1, 2, 3, 7, 12, 13, 14] rfl ?_
         refine Nrm.pick [1] rfl rfl ?_
         exact hj_4 _ _ ⟨rfl, rfl⟩
        ·replace hE_5 := if_ff g_4 hE_5
         refine Tri.skip ?_
         cases hE_5
         refine Nrm.only [1, 2, 3, 7, 12, 13, 14] rfl ?_
         refine Nrm.pick [1] rfl rfl ?_
         exact hj_4 _ _ ⟨rfl, rfl⟩
      ·rcases Bool.eq_false_or_eq_true (t17.2.1 == a1) with g37 | g37
       ·replace hE_4 := if_tt g37 hE_4
        obtain ⟨t41, h41, hE_4⟩ := bind_some hE_4
        refine Tri.reg (l := [0, 1, 2, 3, 4, 5, 6, 7, 8, 9, 10]) rfl ?_
        refine F.qn rfl rfl rfl rfl (r_indexAddrA Try.underlying121 ti3 rfl rfl (by decide) (by decide)) ?_
        refine F.qn rfl rfl rfl rfl (r_load ta3 rfl (fun w hw => cell_1 (box_cells (i := 0) rfl w hw) rfl)) ?_
        refine F.qn rfl rfl rfl rfl (r_move rfl) ?_
        refine F.qn rfl rfl rfl rfl (r_eql rfl rfl) ?_
        refine F.qn rfl rfl rfl rfl (r_move rfl) ?_
        refine F.qg rfl rfl rfl rfl rfl rfl g37 (r_fieldAddr tf66_1 rfl) ?_
        refine F.qg rfl rfl rfl rfl rfl rfl g37 (r_load ta25 rfl (fun w hw => cell_1 (box_cells (i := 1) rfl w hw) rfl)) ?_
        refine F.qg rfl rfl rfl rfl rfl rfl g37 (r_move rfl) ?_
        refine F.qc rfl rfl rfl (wg rfl rfl rfl g37) (q_callF (xs := _) rfl ok153 rfl rfl (fun w hw => slices_Contains_int_int.ok h41 w ((fun _ hw => hr_a0_3.sep hw) w hw))) ?_
        refine F.qg rfl rfl rfl rfl rfl rfl g37 (r_not rfl) ?_
        refine F.qn rfl rfl rfl rfl (r_pick rfl rfl g37) ?_
        refine F.nil ?_
        cases hE_4
        refine Nrm.only [1, 2, 3, 7, 9, 12, 13, 14, 43] rfl ?_
        refine Nrm.pick [0, 1] rfl rfl ?_
        exact hj_3 _ _ ⟨rfl, rfl⟩
       ·replace hE_4 := if_ff g37 hE_4
        refine Tri.reg (l := [0, 1, 2, 3, 4, 5, 6, 7, 8, 9, 10]) rfl ?_
        refine F.qn rfl rfl rfl rfl (r_indexAddrA Try.underlying121 ti3 rfl rfl (by decide) (by decide)) ?_
        refine F.qn rfl rfl rfl rfl (r_load ta3 rfl (fun w hw => cell_1 (box_cells (i := 0) rfl w hw) rfl)) ?_
        refine F.qn rfl rfl rfl rfl (r_move rfl) ?_
        refine F.qn rfl rfl rfl rfl (r_eql rfl rfl) ?_
        refine F.qn rfl rfl rfl rfl (r_move rfl) ?_
        iterate 5 refine F.sk rfl rfl rfl (wf rfl rfl rfl g37) ?_
        refine F.qn rfl rfl rfl rfl (r_pickf rfl rfl g37) ?_
        refine F.nil ?_
        cases hE_4
        refine Nrm.only [1, 2, 3, 7, 9, 12, 13, 14, 43] rfl ?_
        refine Nrm.pick [0, 1] rfl rfl ?_
        exact hj_3 _ _ ⟨rfl, rfl⟩
     ·refine Tri.cond (b := t17.1 == a1) rfl (fun g_3 => ?_) (fun g_3 => ?_)
      ·replace hE_3 := if_tt g_3 hE_3
       obtain ⟨hs31, hE_3⟩ := ck hE_3
       refine Tri.reg (l := [0, 1, 2, 3, 4, 5]) rfl ?_
       refine F.qn rfl rfl rfl rfl (r_move rfl) ?_
       refine F.qn rfl rfl rfl rfl (r_indexAddrA Try.underlying121 ti3 rfl rfl (by decide) (by decide)) ?_
       refine F.qn rfl rfl rfl rfl (r_load ta3 rfl (fun w hw => cell_1 (box_cells (i := 0) rfl w hw) rfl)) ?_
       refine F.qn rfl rfl rfl rfl (r_shl rfl rfl hs31) ?_
       refine F.qn rfl rfl rfl rfl (r_or rfl rfl) ?_
       refine F.qn rfl rfl rfl rfl (r_assign rfl) ?_
       refine F.nil ?_
       cases hE_3
       refine Nrm.only [1, 2, 3, 7, 8, 9, 12, 13, 14] rfl ?_
       refine Nrm.pick [0, 1] rfl rfl ?_
       exact hj_2 _ _ ⟨rfl, rfl⟩
      ·replace hE_3 := if_ff g_3 hE_3
       refine Tri.skip ?_
       cases hE_3
       refine Nrm.only [1, 2, 3, 7, 8, 9, 12, 13, 14] rfl ?_
       refine Nrm.pick [0, 1] rfl rfl ?_
       exact hj_2 _ _ ⟨rfl, rfl⟩
  ·replace hE_1 := if_ff g_1 hE_1
   refine Tri.exit ?_
   refine Exi.then ?_
   refine Exi.then ?_
   refine Exi.same ?_
   cases hE_1
   refine Nrm.seq (Tri.seq (Tri.reg (l := [0, 1]) rfl ?_))
   refine F.qn rfl rfl rfl rfl (r_move rfl) ?_
   refine F.qn rfl rfl rfl rfl (r_assign rfl) ?_
   refine F.nil (Nrm.seq (Tri.ret ?_))
   cases h
   exact Rtn.body (.tmp rfl .nil) (fun w hw => ⟨rfl, hw.ext⟩)


def impl_trapWalk.l0 (k : Nat) (a0_0 : Int) (a0_1 : List (Int × Int × Int)) (a0_2 : List Int) (a0_3 : List Int) (t26 : List (Int)) : Nat → Int → Int → Int → Option ((Int × Int) ⊕ (Int × Int × Bool))
 | 0, _, _, _ => none
 | n + 1, x7, x8, x28 => (if (decide (x28 < (t26.length : Int))) = true then (rdl t26 x28).bind fun t30 => ((impl_within.f k t30 0 (w64 (a0_0 - 1))).bind fun t37 => (if (!t37) = true then some true else (impl_trapSteps.f k a0_0 a0_1 a0_2 a0_3 x7 x8).bind fun t43 => if ¬ t30 < 0 then some ((band (shr t43 t30) 1) == 0) else none)).bind fun y48 => (if y48 = true then some (Sum.inr (0, 0, false)) else (rdl a0_2 t30).bind fun t55 => impl_trapWalk.l0 k a0_0 a0_1 a0_2 a0_3 t26 n t30 (bor x8 t55) (w64 (x28 + 1))) else some (Sum.inl (x7, x8)))

def impl_trapWalk.f (k : Nat) (a0_0 : Int) (a0_1 : List (Int × Int × Int)) (a0_2 : List Int) (a0_3 : List Int) (a1 : List Int) : Option (Int × Int × Bool) := ((if ((a1.length : Int) == 0) = true then some true else (rdl a1 0).bind fun t16 => some (t16 != 0))).bind fun y19 => (if y19 = true then some (0, 0, false) else (rdl a0_2 0).bind fun t23 => (slc a1 1 (a1.length : Int)).bind fun t26 => (impl_trapWalk.l0 k a0_0 a0_1 a0_2 a0_3 t26 k 0 t23 0).bind fun s => Lr s some fun (x7, x8) => some (x7, x8, true))

theorem impl_trapWalk.ok {k : Nat}  {a0_0 : Int} {a0_1 : List (Int × Int × Int)} {a0_2 : List Int} {a0_3 : List Int} {a1 : List Int} {r0 : Int} {r1 : Int} {r2 : Bool} (h : impl_trapWalk.f k a0_0 a0_1 a0_2 a0_3 a1 = some (r0, r1, r2)) (w : World) {va0_1 : Value} {va0_2 : Value} {va0_3 : Value} {va1 : Value} (hr_a0_1 : Rd w va0_1 a0_1) (hr_a0_2 : Rd w va0_2 a0_2) (hr_a0_3 : Rd w va0_3 a0_3) (hr_a1 : Rd w va1 a1) :
  Calls Try.prog 130 ([.agg ([.int .i64 a0_0, va0_1, va0_2, va0_3].toArray), va1] : List Value).toArray w (fun e w' => e = .returned (.tuple #[.int .i64 r0, .int .i64 r1, .bool r2]) ∧ Ext w w') := by
 unfold impl_trapWalk.f at h
 have hl_va0_1 := hr_a0_1.len
 have hl_va0_2 := hr_a0_2.len
 have hl_va0_3 := hr_a0_3.len
 have hl_va1 := hr_a1.len
 refine Calls.of_tri (N := 61) Try.func130 rfl rfl rfl (Sep.nil (M := noM)) ?_
 refine Tri.seq (Tri.reg (l := [0, 1, 2, 3]) rfl ?_)
 refine F.mn rfl rfl rfl rfl (m_boxG rfl rfl) ?_
 rintro _ _ ⟨b2_1, rfl, rfl⟩
 iterate 3 refine F.qn rfl rfl rfl rfl (r_assign rfl) ?_
 refine F.nil (Nrm.seq (Tri.seq (Tri.seq ?_)))
 obtain ⟨y19, hE_1, h⟩ := bind_some h
 refine Tri.cut (fun e' C' => e' = [(1, va1), (2, .pointer (some ⟨b2_1, 0, none⟩)), (19, .bool y19)] ∧ C' = Sep w noM [R.box b2_1 66 [.int .i64 a0_0, va0_1, va0_2, va0_3]]) ?_ (fun hj_1 => ?_)
 ·rintro _ _ ⟨rfl, rfl⟩
  refine Nrm.seq (Tri.cond (b := y19) rfl (fun g_1 => ?_) (fun g_1 => ?_))
  ·replace h := if_tt g_1 h
   refine Tri.seq (Tri.reg (l := [0, 1, 2]) rfl ?_)
   iterate 3 refine F.qn rfl rfl rfl rfl (r_assign rfl) ?_
   refine F.nil (Nrm.seq (Tri.ret ?_))
   refine Rtn.then ?_
   cases h
   exact Rtn.body (.tmp rfl (.tmp rfl (.tmp rfl .nil))) (fun w hw => ⟨rfl, hw.ext⟩)
  ·replace h := if_ff g_1 h
   refine Tri.skip (Nrm.seq (Tri.seq ?_))
   obtain ⟨t23, h23, h⟩ := bind_some h
   refine Tri.drawA mixedT Sep.up [(0, true), (1, true), (2, true), (3, true), (4, true), (5, true), (6, true)] [] (by kernel_rfl) ?_
   refine S.qn rfl rfl rfl rfl (r_fieldAddr tf66_0 rfl) ?_
   refine S.qn rfl rfl rfl rfl (r_fieldAddr tf27_2 rfl) ?_
   refine S.qn rfl rfl rfl rfl (r_load ta25 rfl (fun w hw => cell_2 (box_cells (i := 0) rfl w hw) rfl)) ?_
   refine S.qn rfl rfl rfl rfl (r_indexAddrS Try.underlying25 ti3 rfl hl_va0_2 rfl (rdl_some h23).1 (rdl_some h23).2.1) ?_
   refine S.qn rfl rfl rfl rfl (r_load ta3 rfl (fun w hw => cell_0 (Rd.flat ((fun _ hw => hr_a0_2.sep hw) w hw) (rdl_some h23).2.2) rfl)) ?_
   refine S.qn rfl rfl rfl rfl (r_assign rfl) ?_
   refine S.qn rfl rfl rfl rfl (r_assign rfl) ?_
   refine S.nil (F.nil (Nrm.seq (Tri.seq (Tri.seq ?_))))
   obtain ⟨t26, h26, h⟩ := bind_some h
   refine Tri.reg (l := [0, 1, 2, 3]) rfl ?_
   refine F.qn rfl rfl rfl rfl (r_move rfl) ?_
   refine F.qn rfl rfl rfl rfl (r_sliceL Try.underlying25 ti3 rfl (fun _ hw => hr_a1.sep hw) rfl h26) ?_
   refine F.qn rfl rfl rfl rfl (r_len Try.underlying25 rfl (slc_len hl_va1 h26)) ?_
   refine F.qn rfl rfl rfl rfl (r_move rfl) ?_
   refine F.nil (Nrm.seq ?_)
   obtain ⟨s0, hE_2, h⟩ := bind_some h
   refine Tri.block ?_
   refine Tri.only [2, 7, 8, 26, 27, 28] rfl ?_
   refine Tri.pick [0] rfl rfl ?_
   refine Tri.rounds (fun n e' C' => ∃ (x7' : Int) (x8' : Int) (x28' : Int), impl_trapWalk.l0 k a0_0 a0_1 a0_2 a0_3 t26 n x7' x8' x28' = some s0 ∧ e' = [(2, .pointer (some ⟨b2_1, 0, none⟩)), (7, .int .i64 x7'), (8, .int .i64 x8'), (26, (slSub va1 1 (1 : Int).toNat (a1.length : Int).toNat)), (27, .int .i64 (t26.length : Int)), (28, .int .i64 x28')] ∧ C' = Sep w noM [R.box b2_1 66 [.int .i64 a0_0, va0_1, va0_2, va0_3]]) k ?_ ?_ ?_
   ·exact ⟨0, t23, 0, hE_2, rfl, rfl⟩
   ·rintro _ _ ⟨_, _, _, hE_2, _⟩
    rw [impl_trapWalk.l0.eq_1] at hE_2; cases hE_2
   ·rintro n_1 _ _ ⟨x7, x8, x28, hE_2, rfl, rfl⟩ ih_1
    rw [impl_trapWalk.l0.eq_2] at hE_2
    refine Tri.seq (Tri.reg (l := [0]) rfl ?_)
    refine F.qn rfl rfl rfl rfl (r_lss rfl rfl) ?_
    refine F.nil (Nrm.seq (Tri.seq (Tri.cond (b := decide (x28 < (t26.length : Int))) rfl (fun g_2 => ?_) (fun g_2 => ?_))))
    ·replace hE_2 := if_tt g_2 hE_2
     refine Tri.skip (Nrm.seq (Tri.seq (Tri.block ?_)))
     refine Tri.seq ?_
     obtain ⟨t30, h30, hE_2⟩ := bind_some hE_2
     refine Tri.reg (l := [0, 1, 2]) rfl ?_
     refine F.qn rfl rfl rfl rfl (r_indexAddrS Try.underlying25 ti3 rfl (slc_len hl_va1 h26) rfl (rdl_some h30).1 (rdl_some h30).2.1) ?_
     refine F.qn rfl rfl rfl rfl (r_load ta3 rfl (fun w hw => cell_0 (Rd.flat ((fun w hw => rd_slc ((fun _ hw => hr_a1.sep hw) w hw) h26) w hw) (rdl_some h30).2.2) rfl)) ?_
     refine F.qn rfl rfl rfl rfl (r_assign rfl) ?_
     refine F.nil (Nrm.seq (Tri.seq (Tri.seq ?_)))
     obtain ⟨y48, hE_3, hE_2⟩ := bind_some hE_2
     refine Tri.cut (fun e' C' => e' = [(2, .pointer (some ⟨b2_1, 0, none⟩)), (8, .int .i64 x8), (10, .int .i64 t30), (26, (slSub va1 1 (1 : Int).toNat (a1.length : Int).toNat)), (27, .int .i64 (t26.length : Int)), (28, .int .i64 x28), (48, .bool y48)] ∧ C' = Sep w noM [R.box b2_1 66 [.int .i64 a0_0, va0_1, va0_2, va0_3]]) ?_ (fun hj_2 => ?_)
     ·rintro _ _ ⟨rfl, rfl⟩
      refine Nrm.seq (Tri.cond (b := y48) rfl (fun g_3 => ?_) (fun g_3 => ?_))
      ·replace hE_2 := if_tt g_3 hE_2
       refine Tri.seq (Tri.reg (l := [0, 1, 2]) rfl ?_)
       iterate 3 refine F.qn rfl rfl rfl rfl (r_assign rfl) ?_
       refine F.nil (Nrm.seq (Tri.ret ?_))
       refine Rtn.then ?_
       refine Rtn.block ?_
       refine Rtn.then ?_
       refine Rtn.then ?_
       refine Rtn.block ?_
       refine Rtn.then ?_
       cases hE_2
       replace h := Lr_inr h
       cases h
       exact Rtn.body (.tmp rfl (.tmp rfl (.tmp rfl .nil))) (fun w hw => ⟨rfl, hw.ext⟩)
      ·replace hE_2 := if_ff g_3 hE_2
       refine Tri.skip (Nrm.seq ?_)
       obtain ⟨t55, h55, hE_2⟩ := bind_some hE_2
       refine Tri.drawA mixedT Sep.up [(0, true), (1, true), (2, true), (3, true), (4, true), (5, true), (6, true), (7, true), (8, true), (9, true), (10, true)] [] (by kernel_rfl) ?_
       refine S.qn rfl rfl rfl rfl (r_move rfl) ?_
       refine S.qn rfl rfl rfl rfl (r_move rfl) ?_
       refine S.qn rfl rfl rfl rfl (r_fieldAddr tf66_0 rfl) ?_
       refine S.qn rfl rfl rfl rfl (r_fieldAddr tf27_2 rfl) ?_
       refine S.qn rfl rfl rfl rfl (r_load ta25 rfl (fun w hw => cell_2 (box_cells (i := 0) rfl w hw) rfl)) ?_
       refine S.qn rfl rfl rfl rfl (r_move rfl) ?_
       refine S.qn rfl rfl rfl rfl (r_indexAddrS Try.underlying25 ti3 rfl hl_va0_2 rfl (rdl_some h55).1 (rdl_some h55).2.1) ?_
       refine S.qn rfl rfl rfl rfl (r_load ta3 rfl (fun w hw => cell_0 (Rd.flat ((fun _ hw => hr_a0_2.sep hw) w hw) (rdl_some h55).2.2) rfl)) ?_
       refine S.qn rfl rfl rfl rfl (r_or rfl rfl) ?_
       refine S.qn rfl rfl rfl rfl (r_assign rfl) ?_
       refine S.qn rfl rfl rfl rfl (r_assign rfl) ?_
       refine S.nil (F.nil (Nrm.block ?_))
       refine Nrm.seq (Tri.reg (l := [0, 1]) rfl ?_)
       refine F.qn rfl rfl rfl rfl (r_add rfl rfl) ?_
       refine F.qn rfl rfl rfl rfl (r_move rfl) ?_
       refine F.nil (Nrm.round ?_)
       refine Rnd.only [2, 7, 8, 26, 27, 28] rfl ?_
       refine Rnd.pick [0] rfl rfl ?_
       exact ih_1 _ _ ⟨t30, bor x8 t55, w64 (x28 + 1), hE_2, rfl, rfl⟩
     ·obtain ⟨t37, h37, hE_3⟩ := bind_some hE_3
      rcases Bool.eq_false_or_eq_true (!t37) with g39 | g39
      ·replace hE_3 := if_tt g39 hE_3
       refine Tri.reg (l := List.range 17) rfl ?_
       refine F.qn rfl rfl rfl rfl (r_move rfl) ?_
       refine F.qn rfl rfl rfl rfl (r_fieldAddr tf66_0 rfl) ?_
       refine F.qn rfl rfl rfl rfl (r_fieldAddr tf27_0 rfl) ?_
       refine F.qn rfl rfl rfl rfl (r_load ta3 rfl (fun w hw => cell_2 (box_cells (i := 0) rfl w hw) rfl)) ?_
       refine F.qn rfl rfl rfl rfl (r_sub rfl rfl) ?_
       refine F.qcn rfl rfl rfl rfl (q_callF (xs := _) rfl ok149 rfl rfl (fun w hw => impl_within.ok h37 w )) ?_
       refine F.qn rfl rfl rfl rfl (r_not rfl) ?_
       refine F.qn rfl rfl rfl rfl (r_move rfl) ?_
       iterate 8 refine F.sk rfl rfl rfl (wf rfl rfl rfl g39) ?_
       refine F.qn rfl rfl rfl rfl (r_pick rfl rfl g39) ?_
       refine F.nil ?_
       cases hE_3
       refine Nrm.only [2, 8, 10, 26, 27, 28, 48] rfl ?_
       refine Nrm.pick [0] rfl rfl ?_
       exact hj_2 _ _ ⟨rfl, rfl⟩
      ·replace hE_3 := if_ff g39 hE_3
       obtain ⟨t43, h43, hE_3⟩ := bind_some hE_3
       obtain ⟨hs45, hE_3⟩ := ck hE_3
       refine Tri.reg (l := List.range 17) rfl ?_
       refine F.qn rfl rfl rfl rfl (r_move rfl) ?_
       refine F.qn rfl rfl rfl rfl (r_fieldAddr tf66_0 rfl) ?_
       refine F.qn rfl rfl rfl rfl (r_fieldAddr tf27_0 rfl) ?_
       refine F.qn rfl rfl rfl rfl (r_load ta3 rfl (fun w hw => cell_2 (box_cells (i := 0) rfl w hw) rfl)) ?_
       refine F.qn rfl rfl rfl rfl (r_sub rfl rfl) ?_
       refine F.qcn rfl rfl rfl rfl (q_callF (xs := _) rfl ok149 rfl rfl (fun w hw => impl_within.ok h37 w )) ?_
       refine F.qn rfl rfl rfl rfl (r_not rfl) ?_
       refine F.qn rfl rfl rfl rfl (r_move rfl) ?_
       refine F.qg rfl rfl rfl rfl rfl rfl g39 (r_loadA ta66 ti66 rfl rfl (fun w hw => (box_cells (i := 0) rfl w hw))) ?_
       refine F.qg rfl rfl rfl rfl rfl rfl g39 (r_move rfl) ?_
       refine F.qg rfl rfl rfl rfl rfl rfl g39 (r_move rfl) ?_
       refine F.qc rfl rfl rfl (wg rfl rfl rfl g39) (q_callF (xs := _) rfl ok124 rfl rfl (fun w hw => impl_trapSteps.ok h43 w ((fun _ hw => hr_a0_1.sep hw) w hw) ((fun _ hw => hr_a0_2.sep hw) w hw) ((fun _ hw => hr_a0_3.sep hw) w hw))) ?_
       refine F.qg rfl rfl rfl rfl rfl rfl g39 (r_move rfl) ?_
       refine F.qg rfl rfl rfl rfl rfl rfl g39 (r_shr rfl rfl hs45) ?_
       refine F.qg rfl rfl rfl rfl rfl rfl g39 (r_and rfl rfl) ?_
       refine F.qg rfl rfl rfl rfl rfl rfl g39 (r_eql rfl rfl) ?_
       refine F.qn rfl rfl rfl rfl (r_pickf rfl rfl g39) ?_
       refine F.nil ?_
       cases hE_3
       refine Nrm.only [2, 8, 10, 26, 27, 28, 48] rfl ?_
       refine Nrm.pick [0] rfl rfl ?_
       exact hj_2 _ _ ⟨rfl, rfl⟩
    ·replace hE_2 := if_ff g_2 hE_2
     refine Tri.exit ?_
     refine Exi.then ?_
     refine Exi.then ?_
     refine Exi.same ?_
     cases hE_2
     replace h := Lr_inl h
     refine Nrm.seq (Tri.seq (Tri.reg (l := [0, 1, 2, 3, 4]) rfl ?_))
     refine F.qn rfl rfl rfl rfl (r_move rfl) ?_
     refine F.qn rfl rfl rfl rfl (r_move rfl) ?_
     iterate 3 refine F.qn rfl rfl rfl rfl (r_assign rfl) ?_
     refine F.nil (Nrm.seq (Tri.ret ?_))
     cases h
     exact Rtn.body (.tmp rfl (.tmp rfl (.tmp rfl .nil))) (fun w hw => ⟨rfl, hw.ext⟩)
 ·rcases Bool.eq_false_or_eq_true ((a1.length : Int) == 0) with g14 | g14
  ·replace hE_1 := if_tt g14 hE_1
   refine Tri.reg (l := [0, 1, 2, 3, 4, 5, 6, 7, 8]) rfl ?_
   refine F.qn rfl rfl rfl rfl (r_move rfl) ?_
   refine F.qn rfl rfl rfl rfl (r_len Try.underlying25 rfl hl_va1) ?_
   refine F.qn rfl rfl rfl rfl (r_eql rfl rfl) ?_
   refine F.qn rfl rfl rfl rfl (r_move rfl) ?_
   iterate 4 refine F.sk rfl rfl rfl (wf rfl rfl rfl g14) ?_
   refine F.qn rfl rfl rfl rfl (r_pick rfl rfl g14) ?_
   refine F.nil ?_
   cases hE_1
   refine Nrm.only [1, 2, 19] rfl ?_
   refine Nrm.pick [0] rfl rfl ?_
   exact hj_1 _ _ ⟨rfl, rfl⟩
  ·replace hE_1 := if_ff g14 hE_1
   obtain ⟨t16, h16, hE_1⟩ := bind_some hE_1
   refine Tri.reg (l := [0, 1, 2, 3, 4, 5, 6, 7, 8]) rfl ?_
   refine F.qn rfl rfl rfl rfl (r_move rfl) ?_
   refine F.qn rfl rfl rfl rfl (r_len Try.underlying25 rfl hl_va1) ?_
   refine F.qn rfl rfl rfl rfl (r_eql rfl rfl) ?_
   refine F.qn rfl rfl rfl rfl (r_move rfl) ?_
   refine F.qg rfl rfl rfl rfl rfl rfl g14 (r_move rfl) ?_
   refine F.qg rfl rfl rfl rfl rfl rfl g14 (r_indexAddrS Try.underlying25 ti3 rfl hl_va1 rfl (rdl_some h16).1 (rdl_some h16).2.1) ?_
   refine F.qg rfl rfl rfl rfl rfl rfl g14 (r_load ta3 rfl (fun w hw => cell_0 (Rd.flat ((fun _ hw => hr_a1.sep hw) w hw) (rdl_some h16).2.2) rfl)) ?_
   refine F.qg rfl rfl rfl rfl rfl rfl g14 (r_neq rfl rfl) ?_
   refine F.qn rfl rfl rfl rfl (r_pickf rfl rfl g14) ?_
   refine F.nil ?_
   cases hE_1
   refine Nrm.only [1, 2, 19] rfl ?_
   refine Nrm.pick [0] rfl rfl ?_
   exact hj_1 _ _ ⟨rfl, rfl⟩


def impl_StateBehind.f (k : Nat) (a0_0 : Int) (a0_1 : List (Int × Int × Int)) (a0_2 : List Int) (a0_3 : List Int) (a1 : List Int) : Option (Int × Int × Bool) := (impl_IsTrap.f k a0_0 a0_1 a0_2 a0_3).bind fun t8 => (if (!t8) = true then some (0, 0, false) else (impl_trapWalk.f k a0_0 a0_1 a0_2 a0_3 a1).bind fun (t12_1, t12_2, t12_3) => some (t12_1, t12_2, t12_3))

theorem impl_StateBehind.ok {k : Nat}  {a0_0 : Int} {a0_1 : List (Int × Int × Int)} {a0_2 : List Int} {a0_3 : List Int} {a1 : List Int} {r0 : Int} {r1 : Int} {r2 : Bool} (h : impl_StateBehind.f k a0_0 a0_1 a0_2 a0_3 a1 = some (r0, r1, r2)) (w : World) {va0_1 : Value} {va0_2 : Value} {va0_3 : Value} {va1 : Value} (hr_a0_1 : Rd w va0_1 a0_1) (hr_a0_2 : Rd w va0_2 a0_2) (hr_a0_3 : Rd w va0_3 a0_3) (hr_a1 : Rd w va1 a1) :
  Calls Try.prog 64 ([.agg ([.int .i64 a0_0, va0_1, va0_2, va0_3].toArray), va1] : List Value).toArray w (fun e w' => e = .returned (.tuple #[.int .i64 r0, .int .i64 r1, .bool r2]) ∧ Ext w w') := by
 unfold impl_StateBehind.f at h
 have hl_va0_1 := hr_a0_1.len
 have hl_va0_2 := hr_a0_2.len
 have hl_va0_3 := hr_a0_3.len
 have hl_va1 := hr_a1.len
 refine Calls.of_tri (N := 16) Try.func64 rfl rfl rfl (Sep.nil (M := noM)) ?_
 refine Tri.seq (Tri.reg (l := [0, 1, 2, 3]) rfl ?_)
 refine F.mn rfl rfl rfl rfl (m_boxG rfl rfl) ?_
 rintro _ _ ⟨b2_1, rfl, rfl⟩
 iterate 3 refine F.qn rfl rfl rfl rfl (r_assign rfl) ?_
 refine F.nil (Nrm.seq (Tri.seq (Tri.seq ?_)))
 obtain ⟨t8, h8, h⟩ := bind_some h
 refine Tri.reg (l := [0, 1, 2]) rfl ?_
 refine F.qn rfl rfl rfl rfl (r_loadA ta66 ti66 rfl rfl (fun w hw => (box_cells (i := 0) rfl w hw))) ?_
 refine F.qcn rfl rfl rfl rfl (q_callF (xs := _) rfl ok129 rfl rfl (fun w hw => impl_IsTrap.ok h8 w ((fun _ hw => hr_a0_1.sep hw) w hw) ((fun _ hw => hr_a0_2.sep hw) w hw) ((fun _ hw => hr_a0_3.sep hw) w hw))) ?_
 refine F.qn rfl rfl rfl rfl (r_not rfl) ?_
 refine F.nil (Nrm.seq (Tri.cond (b := !t8) rfl (fun g_1 => ?_) (fun g_1 => ?_)))
 ·replace h := if_tt g_1 h
  refine Tri.seq (Tri.reg (l := [0, 1, 2]) rfl ?_)
  iterate 3 refine F.qn rfl rfl rfl rfl (r_assign rfl) ?_
  refine F.nil (Nrm.seq (Tri.ret ?_))
  refine Rtn.then ?_
  cases h
  exact Rtn.body (.tmp rfl (.tmp rfl (.tmp rfl .nil))) (fun w hw => ⟨rfl, hw.ext⟩)
 ·replace h := if_ff g_1 h
  refine Tri.skip (Nrm.seq (Tri.seq ?_))
  obtain ⟨⟨t12_1, t12_2, t12_3⟩, h12, h⟩ := bind_some h
  refine Tri.reg (l := [0, 1, 2, 3, 4, 5, 6, 7, 8]) rfl ?_
  refine F.qn rfl rfl rfl rfl (r_loadA ta66 ti66 rfl rfl (fun w hw => (box_cells (i := 0) rfl w hw))) ?_
  refine F.qn rfl rfl rfl rfl (r_move rfl) ?_
  refine F.qcn rfl rfl rfl rfl (q_callF (xs := _) rfl ok130 rfl rfl (fun w hw => impl_trapWalk.ok h12 w ((fun _ hw => hr_a0_1.sep hw) w hw) ((fun _ hw => hr_a0_2.sep hw) w hw) ((fun _ hw => hr_a0_3.sep hw) w hw) ((fun _ hw => hr_a1.sep hw) w hw))) ?_
  iterate 3 refine F.qn rfl rfl rfl rfl (r_extract rfl rfl) ?_
  iterate 3 refine F.qn rfl rfl rfl rfl (r_assign rfl) ?_
  refine F.nil (Nrm.seq (Tri.ret ?_))
  cases h
  exact Rtn.body (.tmp rfl (.tmp rfl (.tmp rfl .nil))) (fun w hw => ⟨rfl, hw.ext⟩)


def impl_members.l0 (k : Nat) (a0 : Int) : Nat → (List (Int)) → Int → Option ((List (Int)))
 | 0, _, _ => none
 | n + 1, x3, x4 => if ¬ x4 < 0 then (if (decide ((shr a0 x4) > 0)) = true then if ¬ x4 < 0 then ((if ((band (shr a0 x4) 1) == 1) = true then if (x3 ++ ([x4] : List (Int))).length < 1099511627776 then some (x3 ++ ([x4] : List (Int))) else none else some x3)).bind fun y3 => impl_members.l0 k a0 n y3 (w64 (x4 + 1)) else none else some x3) else none

def impl_members.f (k : Nat) (a0 : Int) : Option ((List Int)) := (impl_members.l0 k a0 k ([] : List (Int)) 0).bind fun x3 => some x3

theorem impl_members.ok {k : Nat}  {a0 : Int} {r0 : List Int} (h : impl_members.f k a0 = some r0) (w : World) :
  Calls Try.prog 98 ([.int .i64 a0] : List Value).toArray w (Post (fun u ns => ∃ (Sr0 : Nat → Prop), SlLen u r0.length ∧ ns = [R.sl Sr0 u r0]) w) := by
 unfold impl_members.f at h
 refine Calls.of_tri (N := 22) Try.func98 rfl rfl rfl (Sep.nil (M := noM)) ?_
 refine Tri.seq (Tri.reg (l := [0]) rfl ?_)
 refine F.qn rfl rfl rfl rfl (r_assign rfl) ?_
 refine F.nil (Nrm.seq (Tri.seq (Tri.reg (l := [0, 1]) rfl ?_)))
 refine F.mn rfl rfl rfl rfl (m_build0 (α := Int) Try.underlying25 ti3) ?_
 rintro v5_1 _ ⟨S5_1, hl_v5_1, rfl⟩
 refine F.qn rfl rfl rfl rfl (r_assign rfl) ?_
 refine F.nil (Nrm.seq (Tri.seq (Tri.seq (Tri.reg (l := [0]) rfl ?_))))
 refine F.qn rfl rfl rfl rfl (r_assign rfl) ?_
 refine F.nil (Nrm.seq ?_)
 obtain ⟨x3, hE_1, h⟩ := bind_some h
 refine Tri.block ?_
 refine Tri.only [0, 3, 4] rfl ?_
 refine Tri.pick [0] rfl rfl ?_
 refine Tri.rounds (fun n e' C' => ∃ (x3' : List (Int)) (x4' : Int) (w3 : Value) (T3 : Nat → Prop), impl_members.l0 k a0 n x3' x4' = some x3 ∧ SlLen w3 (x3').length ∧ e' = [(0, .int .i64 a0), (3, w3), (4, .int .i64 x4')] ∧ C' = Sep w noM [R.sl T3 w3 (x3' : List (Int))]) k ?_ ?_ ?_
 ·exact ⟨([] : List (Int)), 0, v5_1, S5_1, hE_1, hl_v5_1, rfl, rfl⟩
 ·rintro _ _ ⟨_, _, _, _, hE_1, _⟩
  rw [impl_members.l0.eq_1] at hE_1; cases hE_1
 ·rintro n_1 _ _ ⟨x3, x4, w3, T3, hE_1, hl_w3, rfl, rfl⟩ ih_1
  rw [impl_members.l0.eq_2] at hE_1
  refine Tri.seq (Tri.seq ?_)
  obtain ⟨hs8, hE_1⟩ := ck hE_1
  refine Tri.reg (l := [0, 1, 2, 3]) rfl ?_
  refine F.qn rfl rfl rfl rfl (r_move rfl) ?_
  refine F.qn rfl rfl rfl rfl (r_move rfl) ?_
  refine F.qn rfl rfl rfl rfl (r_shr rfl rfl hs8) ?_
  refine F.qn rfl rfl rfl rfl (r_gtr rfl rfl) ?_
  refine F.nil (Nrm.seq (Tri.cond (b := decide ((shr a0 x4) > 0)) rfl (fun g_1 => ?_) (fun g_1 => ?_)))
  ·replace hE_1 := if_tt g_1 hE_1
   refine Tri.skip (Nrm.seq (Tri.seq (Tri.block ?_)))
   refine Tri.seq ?_
   obtain ⟨hs14, hE_1⟩ := ck hE_1
   refine Tri.reg (l := [0, 1, 2, 3, 4]) rfl ?_
   refine F.qn rfl rfl rfl rfl (r_move rfl) ?_
   refine F.qn rfl rfl rfl rfl (r_move rfl) ?_
   refine F.qn rfl rfl rfl rfl (r_shr rfl rfl hs14) ?_
   refine F.qn rfl rfl rfl rfl (r_and rfl rfl) ?_
   refine F.qn rfl rfl rfl rfl (r_eql rfl rfl) ?_
   refine F.nil (Nrm.seq ?_)
   obtain ⟨y3, hE_2, hE_1⟩ := bind_some hE_1
   refine Tri.cut (fun e' C' => ∃ (v3_1 : Value) (S3_1 : Nat → Prop), SlLen v3_1 (y3).length ∧ e' = [(0, .int .i64 a0), (3, v3_1), (4, .int .i64 x4)] ∧ C' = Sep w noM [R.sl S3_1 v3_1 (y3 : List (Int))]) ?_ (fun hj_1 => ?_)
   ·rintro _ _ ⟨v3_1, S3_1, hl_v3_1, rfl, rfl⟩
    refine Nrm.block ?_
    refine Nrm.seq (Tri.reg (l := [0, 1, 2]) rfl ?_)
    refine F.qn rfl rfl rfl rfl (r_move rfl) ?_
    refine F.qn rfl rfl rfl rfl (r_add rfl rfl) ?_
    refine F.qn rfl rfl rfl rfl (r_assign rfl) ?_
    refine F.nil (Nrm.round ?_)
    refine Rnd.only [0, 3, 4] rfl ?_
    refine Rnd.pick [0] rfl rfl ?_
    exact ih_1 _ _ ⟨y3, w64 (x4 + 1), v3_1, S3_1, hE_1, hl_v3_1, rfl, rfl⟩
   ·refine Tri.cond (b := (band (shr a0 x4) 1) == 1) rfl (fun g_2 => ?_) (fun g_2 => ?_)
    ·replace hE_2 := if_tt g_2 hE_2
     obtain ⟨hs20, hE_2⟩ := ck hE_2
     refine Tri.reg (l := [0, 1, 2, 3, 4]) rfl ?_
     refine F.qn rfl rfl rfl rfl (r_move rfl) ?_
     refine F.qn rfl rfl rfl rfl (r_move rfl) ?_
     refine F.mn rfl rfl rfl rfl (m_buildF (l := ([x4] : List (Int))) Try.underlying25 ti3 rfl rfl rfl rfl rfl) ?_
     rintro v19_1 _ ⟨S19_1, hl_v19_1, rfl⟩
     refine F.efn rfl rfl rfl rfl (d_append (i := 1) Try.underlying25 Try.underlying25 ti3 rfl (by decide) rfl rfl rfl (rd_sl (i := 0) rfl) hs20) ?_
     rintro v20_1 _ ⟨S20_1, rfl, hl_v20_1⟩
     refine F.qn rfl rfl rfl rfl (r_assign rfl) ?_
     refine F.nil ?_
     cases hE_2
     refine Nrm.only [0, 3, 4] rfl ?_
     refine Nrm.pick [1] rfl rfl ?_
     exact hj_1 _ _ ⟨v20_1, S20_1, hl_v20_1, rfl, rfl⟩
    ·replace hE_2 := if_ff g_2 hE_2
     refine Tri.skip ?_
     cases hE_2
     refine Nrm.only [0, 3, 4] rfl ?_
     refine Nrm.pick [0] rfl rfl ?_
     exact hj_1 _ _ ⟨w3, T3, hl_w3, rfl, rfl⟩
  ·replace hE_1 := if_ff g_1 hE_1
   refine Tri.exit ?_
   refine Exi.then ?_
   refine Exi.then ?_
   refine Exi.same ?_
   cases hE_1
   refine Nrm.seq (Tri.seq (Tri.reg (l := [0, 1]) rfl ?_))
   refine F.qn rfl rfl rfl rfl (r_move rfl) ?_
   refine F.qn rfl rfl rfl rfl (r_assign rfl) ?_
   refine F.nil (Nrm.seq (Tri.ret ?_))
   cases h
   exact Rtn.body (.tmp rfl .nil) (fun w hw => ⟨_, _, rfl, ⟨T3, hl_w3, rfl⟩, Sep.pick (is := [0]) rfl rfl hw⟩)


def impl_better.f (k : Nat) (a0 : Int) (a1 : Int) : Option (Bool) := ((if (decide (a0 ≥ 0)) = true then (if (decide (a1 < 0)) = true then some true else some (decide (a0 < a1))) else some false)).bind fun y4 => some y4

theorem impl_better.ok {k : Nat}  {a0 : Int} {a1 : Int} {r0 : Bool} (h : impl_better.f k a0 a1 = some r0) (w : World) :
  Calls Try.prog 214 ([.int .i64 a0, .int .i64 a1] : List Value).toArray w (fun e w' => e = .returned (.bool r0) ∧ Ext w w') := by
 unfold impl_better.f at h
 refine Calls.of_tri (N := 16) Try.func214 rfl rfl rfl (Sep.nil (M := noM)) ?_
 refine Tri.seq (Tri.reg (l := [0]) rfl ?_)
 refine F.qn rfl rfl rfl rfl (r_assign rfl) ?_
 refine F.nil (Nrm.seq (Tri.seq ?_))
 obtain ⟨y4, hE_1, h⟩ := bind_some h
 refine Tri.cut (fun e' C' => e' = [(4, .bool y4)] ∧ C' = Sep w noM []) ?_ (fun hj_1 => ?_)
 ·rintro _ _ ⟨rfl, rfl⟩
  refine Nrm.seq (Tri.ret ?_)
  cases h
  exact Rtn.body (.tmp rfl .nil) (fun w hw => ⟨rfl, hw.ext⟩)
 ·rcases Bool.eq_false_or_eq_true (decide (a0 ≥ 0)) with g7 | g7
  ·replace hE_1 := if_tt g7 hE_1
   rcases Bool.eq_false_or_eq_true (decide (a1 < 0)) with g10 | g10
   ·replace hE_1 := if_tt g10 hE_1
    refine Tri.reg (l := List.range 12) rfl ?_
    refine F.qn rfl rfl rfl rfl (r_move rfl) ?_
    refine F.qn rfl rfl rfl rfl (r_geq rfl rfl) ?_
    refine F.qn rfl rfl rfl rfl (r_move rfl) ?_
    refine F.qg rfl rfl rfl rfl rfl rfl g7 (r_move rfl) ?_
    refine F.qg rfl rfl rfl rfl rfl rfl g7 (r_lss rfl rfl) ?_
    refine F.qg rfl rfl rfl rfl rfl rfl g7 (r_move rfl) ?_
    iterate 3 refine F.sk rfl rfl rfl (wf rfl rfl rfl g10) ?_
    refine F.qg rfl rfl rfl rfl rfl rfl g7 (r_pick rfl rfl g10) ?_
    refine F.qn rfl rfl rfl rfl (r_pick rfl rfl g7) ?_
    refine F.qn rfl rfl rfl rfl (r_assign rfl) ?_
    refine F.nil ?_
    cases hE_1
    refine Nrm.only [4] rfl ?_
    refine Nrm.pick [] rfl rfl ?_
    exact hj_1 _ _ ⟨rfl, rfl⟩
   ·replace hE_1 := if_ff g10 hE_1
    refine Tri.reg (l := List.range 12) rfl ?_
    refine F.qn rfl rfl rfl rfl (r_move rfl) ?_
    refine F.qn rfl rfl rfl rfl (r_geq rfl rfl) ?_
    refine F.qn rfl rfl rfl rfl (r_move rfl) ?_
    refine F.qg rfl rfl rfl rfl rfl rfl g7 (r_move rfl) ?_
    refine F.qg rfl rfl rfl rfl rfl rfl g7 (r_lss rfl rfl) ?_
    refine F.qg rfl rfl rfl rfl rfl rfl g7 (r_move rfl) ?_
    refine F.qg rfl rfl rfl rfl rfl rfl g10 (r_move rfl) ?_
    refine F.qg rfl rfl rfl rfl rfl rfl g10 (r_move rfl) ?_
    refine F.qg rfl rfl rfl rfl rfl rfl g10 (r_lss rfl rfl) ?_
    refine F.qg rfl rfl rfl rfl rfl rfl g7 (r_pickf rfl rfl g10) ?_
    refine F.qn rfl rfl rfl rfl (r_pick rfl rfl g7) ?_
    refine F.qn rfl rfl rfl rfl (r_assign rfl) ?_
    refine F.nil ?_
    cases hE_1
    refine Nrm.only [4] rfl ?_
    refine Nrm.pick [] rfl rfl ?_
    exact hj_1 _ _ ⟨rfl, rfl⟩
  ·replace hE_1 := if_ff g7 hE_1
   refine Tri.reg (l := List.range 12) rfl ?_
   refine F.qn rfl rfl rfl rfl (r_move rfl) ?_
   refine F.qn rfl rfl rfl rfl (r_geq rfl rfl) ?_
   refine F.qn rfl rfl rfl rfl (r_move rfl) ?_
   iterate 3 refine F.sk rfl rfl rfl (wf rfl rfl rfl g7) ?_
   iterate 3 refine F.sk rfl rfl rfl (wanted_undef rfl rfl rfl) ?_
   refine F.sk rfl rfl rfl (wf rfl rfl rfl g7) ?_
   refine F.qn rfl rfl rfl rfl (r_pickf rfl rfl g7) ?_
   refine F.qn rfl rfl rfl rfl (r_assign rfl) ?_
   refine F.nil ?_
   cases hE_1
   refine Nrm.only [4] rfl ?_
   refine Nrm.pick [] rfl rfl ?_
   exact hj_1 _ _ ⟨rfl, rfl⟩

end Go.Proofs
