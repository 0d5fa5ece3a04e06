/- A part of the proof of FnLaid: what the functions of the program compute, walked on the model. No condition. -/
import Derived.Test.YtebbaacgalipaaaFnLaidB
import Derived.Test.YtebbaacgalipaaaFnLaidC
set_option linter.unusedSimpArgs false
/- loop.example/g01158/spec.l2Maze -/
namespace Go.Proofs
open Go Go.Ga
set_option linter.unusedVariables false
set_option maxRecDepth 100000
set_option maxHeartbeats 4000000
def spec_l2Maze.l1 (k : Nat) (a0_0 : Int) (a0_2 : List Int) : Nat → Int → Option ((Unit) ⊕ (Bool))
 | 0, _ => none
 | n + 1, x5 => (if (decide (x5 < a0_0)) = true then (rdl a0_2 x5).bind fun t85 => (spec_l2Set.f k t85).bind fun t87 => (if (!t87) = true then some (Sum.inr false) else spec_l2Maze.l1 k a0_0 a0_2 n (w64 (x5 + 1))) else some (Sum.inl ()))

def spec_l2Maze.l0 (k : Nat) (a0_0 : Int) (a0_1 : List (Int × Int × Int)) : Nat → Int → Option ((Unit) ⊕ (Bool))
 | 0, _ => none
 | n + 1, x3 => (if (decide (x3 < (a0_1.length : Int))) = true then (rdl a0_1 x3).bind fun t34 => ((spec_l1In.f k t34.1 0 (w64 (a0_0 - 1))).bind fun t41 => (if (!t41) = true then some true else (spec_l1In.f k t34.2.1 (w64 (t34.1 + 1)) (w64 (a0_0 - 1))).bind fun t52 => (if (!t52) = true then some true else (spec_l2Set.f k t34.2.2).bind fun t58 => (if (!t58) = true then some true else (if (decide (x3 > 0)) = true then (rdl a0_1 (w64 (x3 - 1))).bind fun t69 => (spec_l2Before.f k t69.1 t69.2.1 t69.2.2 t34.1 t34.2.1 t34.2.2).bind fun t72 => some (!t72) else some false))))).bind fun y75 => (if y75 = true then some (Sum.inr false) else spec_l2Maze.l0 k a0_0 a0_1 n (w64 (x3 + 1))) else some (Sum.inl ()))

def spec_l2Maze.f (k : Nat) (a0_0 : Int) (a0_1 : List (Int × Int × Int)) (a0_2 : List Int) : Option (Bool) := ((spec_l1In.f k a0_0 1 12).bind fun t8 => (if (!t8) = true then some true else (if (decide ((a0_1.length : Int) > 30)) = true then some true else some ((a0_2.length : Int) != a0_0)))).bind fun y23 => (if y23 = true then some false else (spec_l2Maze.l0 k a0_0 a0_1 k 0).bind fun s => Lr s some fun _ => (spec_l2Maze.l1 k a0_0 a0_2 k 0).bind fun s => Lr s some fun _ => some true)

theorem spec_l2Maze.ok {k : Nat}  {a0_0 : Int} {a0_1 : List (Int × Int × Int)} {a0_2 : List Int} {r0 : Bool} (h : spec_l2Maze.f k a0_0 a0_1 a0_2 = some r0) (w : World) {va0_1 : Value} {va0_2 : Value} (hr_a0_1 : Rd w va0_1 a0_1) (hr_a0_2 : Rd w va0_2 a0_2) :
  Calls Try.prog 184 ([.agg ([.int .i64 a0_0, va0_1, va0_2].toArray)] : List Value).toArray w (fun e w' => e = .returned (.bool r0) ∧ Ext w w') := by
 unfold spec_l2Maze.f at h
 have hl_va0_1 := hr_a0_1.len
 have hl_va0_2 := hr_a0_2.len
 refine Calls.of_tri (N := 89) Try.func184 rfl rfl rfl (Sep.nil (M := noM)) ?_
 refine Tri.seq (Tri.reg (l := [0, 1]) rfl ?_)
 refine F.mn rfl rfl rfl rfl (m_boxG rfl rfl) ?_
 rintro _ _ ⟨b1_1, rfl, rfl⟩
 refine F.qn rfl rfl rfl rfl (r_assign rfl) ?_
 refine F.nil (Nrm.seq (Tri.seq (Tri.seq ?_)))
 obtain ⟨y23, hE_1, h⟩ := bind_some h
 refine Tri.cut (fun e' C' => e' = [(1, .pointer (some ⟨b1_1, 0, none⟩)), (23, .bool y23)] ∧ C' = Sep w noM [R.box b1_1 27 [.int .i64 a0_0, va0_1, va0_2]]) ?_ (fun hj_1 => ?_)
 ·rintro _ _ ⟨rfl, rfl⟩
  refine Nrm.seq (Tri.cond (b := y23) rfl (fun g_1 => ?_) (fun g_1 => ?_))
  ·replace h := if_tt g_1 h
   refine Tri.seq (Tri.reg (l := [0]) rfl ?_)
   refine F.qn rfl rfl rfl rfl (r_assign rfl) ?_
   refine F.nil (Nrm.seq (Tri.ret ?_))
   refine Rtn.then ?_
   cases h
   exact Rtn.body (.tmp rfl .nil) (fun w hw => ⟨rfl, hw.ext⟩)
  ·replace h := if_ff g_1 h
   refine Tri.skip (Nrm.seq (Tri.seq (Tri.seq (Tri.reg (l := [0]) rfl ?_))))
   refine F.qn rfl rfl rfl rfl (r_assign rfl) ?_
   refine F.nil (Nrm.seq ?_)
   obtain ⟨s0, hE_2, h⟩ := bind_some h
   refine Tri.block ?_
   refine Tri.only [1, 3] rfl ?_
   refine Tri.pick [0] rfl rfl ?_
   refine Tri.rounds (fun n e' C' => ∃ (x3' : Int), spec_l2Maze.l0 k a0_0 a0_1 n x3' = some s0 ∧ e' = [(1, .pointer (some ⟨b1_1, 0, none⟩)), (3, .int .i64 x3')] ∧ C' = Sep w noM [R.box b1_1 27 [.int .i64 a0_0, va0_1, va0_2]]) k ?_ ?_ ?_
   ·exact ⟨0, hE_2, rfl, rfl⟩
   ·rintro _ _ ⟨_, hE_2, _⟩
    rw [spec_l2Maze.l0.eq_1] at hE_2; cases hE_2
   ·rintro n_1 _ _ ⟨x3, hE_2, rfl, rfl⟩ ih_1
    rw [spec_l2Maze.l0.eq_2] at hE_2
    refine Tri.seq (Tri.seq (Tri.reg (l := [0, 1, 2, 3, 4]) rfl ?_))
    refine F.qn rfl rfl rfl rfl (r_move rfl) ?_
    refine F.qn rfl rfl rfl rfl (r_fieldAddr tf27_1 rfl) ?_
    refine F.qn rfl rfl rfl rfl (r_load ta24 rfl (fun w hw => cell_1 (box_cells (i := 0) rfl w hw) rfl)) ?_
    refine F.qn rfl rfl rfl rfl (r_len Try.underlying24 rfl hl_va0_1) ?_
    refine F.qn rfl rfl rfl rfl (r_lss rfl rfl) ?_
    refine F.nil (Nrm.seq (Tri.cond (b := decide (x3 < (a0_1.length : Int))) rfl (fun g_2 => ?_) (fun g_2 => ?_)))
    ·replace hE_2 := if_tt g_2 hE_2
     refine Tri.skip (Nrm.seq (Tri.seq (Tri.block ?_)))
     refine Tri.seq ?_
     obtain ⟨t34, h34, hE_2⟩ := bind_some hE_2
     refine Tri.reg (l := [0, 1, 2, 3, 4, 5, 6]) rfl ?_
     refine F.qn rfl rfl rfl rfl (r_fieldAddr tf27_1 rfl) ?_
     refine F.qn rfl rfl rfl rfl (r_load ta24 rfl (fun w hw => cell_1 (box_cells (i := 0) rfl w hw) rfl)) ?_
     refine F.qn rfl rfl rfl rfl (r_move rfl) ?_
     refine F.qn rfl rfl rfl rfl (r_indexAddrS Try.underlying24 ti121 rfl hl_va0_1 rfl (rdl_some h34).1 (rdl_some h34).2.1) ?_
     refine F.qn rfl rfl rfl rfl (r_loadA ta121 ti121 rfl rfl (fun w hw => (Rd.flat ((fun _ hw => hr_a0_1.sep hw) w hw) (rdl_some h34).2.2))) ?_
     refine F.mn rfl rfl rfl rfl (m_alloc ti121) ?_
     rintro _ _ ⟨b4_1, rfl, rfl⟩
     refine F.ef0 rfl rfl (wanted_none rfl) (d_storeG0 (i := 0) (cs2 := [.int .i64 t34.1, .int .i64 t34.2.1, .int .i64 t34.2.2]) ti121 rfl rfl rfl rfl rfl (Nat.le_of_ble_eq_true rfl) (lf_cons rfl (lf_cons rfl (lf_cons rfl lf_nil)))) ?_
     rintro _ _ ⟨rfl, rfl⟩
     refine F.nil (Nrm.seq (Tri.seq ?_))
     obtain ⟨y75, hE_3, hE_2⟩ := bind_some hE_2
     refine Tri.cut (fun e' C' => e' = [(1, .pointer (some ⟨b1_1, 0, none⟩)), (3, .int .i64 x3), (75, .bool y75)] ∧ C' = Sep w noM [R.box b1_1 27 [.int .i64 a0_0, va0_1, va0_2]]) ?_ (fun hj_2 => ?_)
     ·rintro _ _ ⟨rfl, rfl⟩
      refine Nrm.seq (Tri.cond (b := y75) rfl (fun g_3 => ?_) (fun g_3 => ?_))
      ·replace hE_2 := if_tt g_3 hE_2
       refine Tri.seq (Tri.reg (l := [0]) rfl ?_)
       refine F.qn rfl rfl rfl rfl (r_assign rfl) ?_
       refine F.nil (Nrm.seq (Tri.ret ?_))
       refine Rtn.block ?_
       refine Rtn.then ?_
       refine Rtn.then ?_
       refine Rtn.block ?_
       refine Rtn.then ?_
       cases hE_2
       replace h := Lr_inr h
       cases h
       exact Rtn.body (.tmp rfl .nil) (fun w hw => ⟨rfl, hw.ext⟩)
      ·replace hE_2 := if_ff g_3 hE_2
       refine Tri.skip (Nrm.block ?_)
       refine Nrm.seq (Tri.reg (l := [0, 1, 2]) rfl ?_)
       refine F.qn rfl rfl rfl rfl (r_move rfl) ?_
       refine F.qn rfl rfl rfl rfl (r_add rfl rfl) ?_
       refine F.qn rfl rfl rfl rfl (r_assign rfl) ?_
       refine F.nil (Nrm.round ?_)
       refine Rnd.only [1, 3] rfl ?_
       refine Rnd.pick [0] rfl rfl ?_
       exact ih_1 _ _ ⟨w64 (x3 + 1), hE_2, rfl, rfl⟩
     ·obtain ⟨t41, h41, hE_3⟩ := bind_some hE_3
      rcases Bool.eq_false_or_eq_true (!t41) with g43 | g43
      ·replace hE_3 := if_tt g43 hE_3
       refine Tri.drawA mixedT Sep.up [(0, true), (1, true), (2, true), (3, true), (4, true), (5, true), (6, true), (7, true), (8, true), (9, true), (10, true), (11, true), (12, true), (13, true), (14, true), (15, true), (16, true), (17, true), (18, true), (19, true), (20, true), (21, true), (22, true), (23, true), (24, true), (25, true), (26, true), (27, true), (28, true), (29, true), (30, true), (31, true), (32, true), (33, true), (34, true), (35, true), (36, true), (37, true), (38, true), (39, true)] [] (by kernel_rfl) ?_
       refine S.qn rfl rfl rfl rfl (r_indexAddrA Try.underlying121 ti3 rfl rfl (by decide) (by decide)) ?_
       refine S.qn rfl rfl rfl rfl (r_load ta3 rfl (fun w hw => cell_1 (box_cells (i := 0) rfl w hw) rfl)) ?_
       refine S.qn rfl rfl rfl rfl (r_fieldAddr tf27_0 rfl) ?_
       refine S.qn rfl rfl rfl rfl (r_load ta3 rfl (fun w hw => cell_1 (box_cells (i := 1) rfl w hw) rfl)) ?_
       refine S.qn rfl rfl rfl rfl (r_sub rfl rfl) ?_
       refine S.qcn rfl rfl rfl rfl (q_callF (xs := _) rfl ok105 rfl rfl (fun w hw => spec_l1In.ok h41 w )) ?_
       refine S.qn rfl rfl rfl rfl (r_not rfl) ?_
       refine S.qn rfl rfl rfl rfl (r_move rfl) ?_
       iterate 10 refine S.sk rfl rfl rfl (wf rfl rfl rfl g43) ?_
       refine S.qn rfl rfl rfl rfl (r_pick rfl rfl g43) ?_
       refine S.qn rfl rfl rfl rfl (r_move rfl) ?_
       iterate 4 refine S.sk rfl rfl rfl (wf rfl rfl rfl rfl) ?_
       refine S.qn rfl rfl rfl rfl (r_pick rfl rfl rfl) ?_
       refine S.qn rfl rfl rfl rfl (r_move rfl) ?_
       iterate 3 refine S.sk rfl rfl rfl (wf rfl rfl rfl rfl) ?_
       iterate 9 refine S.sk rfl rfl rfl (wanted_undef rfl rfl rfl) ?_
       refine S.sk rfl rfl rfl (wf rfl rfl rfl rfl) ?_
       refine S.qn rfl rfl rfl rfl (r_pick rfl rfl rfl) ?_
       refine S.nil (F.nil ?_)
       cases hE_3
       refine Nrm.only [1, 3, 75] rfl ?_
       refine Nrm.pick [1] rfl rfl ?_
       exact hj_2 _ _ ⟨rfl, rfl⟩
      ·replace hE_3 := if_ff g43 hE_3
       obtain ⟨t52, h52, hE_3⟩ := bind_some hE_3
       rcases Bool.eq_false_or_eq_true (!t52) with g55 | g55
       ·replace hE_3 := if_tt g55 hE_3
        refine Tri.drawA mixedT Sep.up [(0, true), (1, true), (2, true), (3, true), (4, true), (5, true), (6, true), (7, true), (8, true), (9, true), (10, true), (11, true), (12, true), (13, true), (14, true), (15, true), (16, true), (17, true), (18, true), (19, true), (20, true), (21, true), (22, true), (23, true), (24, true), (25, true), (26, true), (27, true), (28, true), (29, true), (30, true), (31, true), (32, true), (33, true), (34, true), (35, true), (36, true), (37, true), (38, true), (39, true)] [] (by kernel_rfl) ?_
        refine S.qn rfl rfl rfl rfl (r_indexAddrA Try.underlying121 ti3 rfl rfl (by decide) (by decide)) ?_
        refine S.qn rfl rfl rfl rfl (r_load ta3 rfl (fun w hw => cell_1 (box_cells (i := 0) rfl w hw) rfl)) ?_
        refine S.qn rfl rfl rfl rfl (r_fieldAddr tf27_0 rfl) ?_
        refine S.qn rfl rfl rfl rfl (r_load ta3 rfl (fun w hw => cell_1 (box_cells (i := 1) rfl w hw) rfl)) ?_
        refine S.qn rfl rfl rfl rfl (r_sub rfl rfl) ?_
        refine S.qcn rfl rfl rfl rfl (q_callF (xs := _) rfl ok105 rfl rfl (fun w hw => spec_l1In.ok h41 w )) ?_
        refine S.qn rfl rfl rfl rfl (r_not rfl) ?_
        refine S.qn rfl rfl rfl rfl (r_move rfl) ?_
        refine S.qg rfl rfl rfl rfl rfl rfl g43 (r_indexAddrA Try.underlying121 ti3 rfl rfl (by decide) (by decide)) ?_
        refine S.qg rfl rfl rfl rfl rfl rfl g43 (r_load ta3 rfl (fun w hw => cell_1 (box_cells (i := 0) rfl w hw) rfl)) ?_
        refine S.qg rfl rfl rfl rfl rfl rfl g43 (r_indexAddrA Try.underlying121 ti3 rfl rfl (by decide) (by decide)) ?_
        refine S.qg rfl rfl rfl rfl rfl rfl g43 (r_load ta3 rfl (fun w hw => cell_1 (box_cells (i := 0) rfl w hw) rfl)) ?_
        refine S.qg rfl rfl rfl rfl rfl rfl g43 (r_add rfl rfl) ?_
        refine S.qg rfl rfl rfl rfl rfl rfl g43 (r_fieldAddr tf27_0 rfl) ?_
        refine S.qg rfl rfl rfl rfl rfl rfl g43 (r_load ta3 rfl (fun w hw => cell_1 (box_cells (i := 1) rfl w hw) rfl)) ?_
        refine S.qg rfl rfl rfl rfl rfl rfl g43 (r_sub rfl rfl) ?_
        refine S.qc rfl rfl rfl (wg rfl rfl rfl g43) (q_callF (xs := _) rfl ok105 rfl rfl (fun w hw => spec_l1In.ok h52 w )) ?_
        refine S.qg rfl rfl rfl rfl rfl rfl g43 (r_not rfl) ?_
        refine S.qn rfl rfl rfl rfl (r_pickf rfl rfl g43) ?_
        refine S.qn rfl rfl rfl rfl (r_move rfl) ?_
        iterate 4 refine S.sk rfl rfl rfl (wf rfl rfl rfl g55) ?_
        refine S.qn rfl rfl rfl rfl (r_pick rfl rfl g55) ?_
        refine S.qn rfl rfl rfl rfl (r_move rfl) ?_
        iterate 3 refine S.sk rfl rfl rfl (wf rfl rfl rfl rfl) ?_
        iterate 9 refine S.sk rfl rfl rfl (wanted_undef rfl rfl rfl) ?_
        refine S.sk rfl rfl rfl (wf rfl rfl rfl rfl) ?_
        refine S.qn rfl rfl rfl rfl (r_pick rfl rfl rfl) ?_
        refine S.nil (F.nil ?_)
        cases hE_3
        refine Nrm.only [1, 3, 75] rfl ?_
        refine Nrm.pick [1] rfl rfl ?_
        exact hj_2 _ _ ⟨rfl, rfl⟩
       ·replace hE_3 := if_ff g55 hE_3
        obtain ⟨t58, h58, hE_3⟩ := bind_some hE_3
        rcases Bool.eq_false_or_eq_true (!t58) with g61 | g61
        ·replace hE_3 := if_tt g61 hE_3
         refine Tri.drawA mixedT Sep.up [(0, true), (1, true), (2, true), (3, true), (4, true), (5, true), (6, true), (7, true), (8, true), (9, true), (10, true), (11, true), (12, true), (13, true), (14, true), (15, true), (16, true), (17, true), (18, true), (19, true), (20, true), (21, true), (22, true), (23, true), (24, true), (25, true), (26, true), (27, true), (28, true), (29, true), (30, true), (31, true), (32, true), (33, true), (34, true), (35, true), (36, true), (37, true), (38, true), (39, true)] [] (by kernel_rfl) ?_
         refine S.qn rfl rfl rfl rfl (r_indexAddrA Try.underlying121 ti3 rfl rfl (by decide) (by decide)) ?_
         refine S.qn rfl rfl rfl rfl (r_load ta3 rfl (fun w hw => cell_1 (box_cells (i := 0) rfl w hw) rfl)) ?_
         refine S.qn rfl rfl rfl rfl (r_fieldAddr tf27_0 rfl) ?_
         refine S.qn rfl rfl rfl rfl (r_load ta3 rfl (fun w hw => cell_1 (box_cells (i := 1) rfl w hw) rfl)) ?_
         refine S.qn rfl rfl rfl rfl (r_sub rfl rfl) ?_
         refine S.qcn rfl rfl rfl rfl (q_callF (xs := _) rfl ok105 rfl rfl (fun w hw => spec_l1In.ok h41 w )) ?_
         refine S.qn rfl rfl rfl rfl (r_not rfl) ?_
         refine S.qn rfl rfl rfl rfl (r_move rfl) ?_
         refine S.qg rfl rfl rfl rfl rfl rfl g43 (r_indexAddrA Try.underlying121 ti3 rfl rfl (by decide) (by decide)) ?_
         refine S.qg rfl rfl rfl rfl rfl rfl g43 (r_load ta3 rfl (fun w hw => cell_1 (box_cells (i := 0) rfl w hw) rfl)) ?_
         refine S.qg rfl rfl rfl rfl rfl rfl g43 (r_indexAddrA Try.underlying121 ti3 rfl rfl (by decide) (by decide)) ?_
         refine S.qg rfl rfl rfl rfl rfl rfl g43 (r_load ta3 rfl (fun w hw => cell_1 (box_cells (i := 0) rfl w hw) rfl)) ?_
         refine S.qg rfl rfl rfl rfl rfl rfl g43 (r_add rfl rfl) ?_
         refine S.qg rfl rfl rfl rfl rfl rfl g43 (r_fieldAddr tf27_0 rfl) ?_
         refine S.qg rfl rfl rfl rfl rfl rfl g43 (r_load ta3 rfl (fun w hw => cell_1 (box_cells (i := 1) rfl w hw) rfl)) ?_
         refine S.qg rfl rfl rfl rfl rfl rfl g43 (r_sub rfl rfl) ?_
         refine S.qc rfl rfl rfl (wg rfl rfl rfl g43) (q_callF (xs := _) rfl ok105 rfl rfl (fun w hw => spec_l1In.ok h52 w )) ?_
         refine S.qg rfl rfl rfl rfl rfl rfl g43 (r_not rfl) ?_
         refine S.qn rfl rfl rfl rfl (r_pickf rfl rfl g43) ?_
         refine S.qn rfl rfl rfl rfl (r_move rfl) ?_
         refine S.qg rfl rfl rfl rfl rfl rfl g55 (r_indexAddrA Try.underlying121 ti3 rfl rfl (by decide) (by decide)) ?_
         refine S.qg rfl rfl rfl rfl rfl rfl g55 (r_load ta3 rfl (fun w hw => cell_1 (box_cells (i := 0) rfl w hw) rfl)) ?_
         refine S.qc rfl rfl rfl (wg rfl rfl rfl g55) (q_callF (xs := _) rfl ok92 rfl rfl (fun w hw => spec_l2Set.ok h58 w )) ?_
         refine S.qg rfl rfl rfl rfl rfl rfl g55 (r_not rfl) ?_
         refine S.qn rfl rfl rfl rfl (r_pickf rfl rfl g55) ?_
         refine S.qn rfl rfl rfl rfl (r_move rfl) ?_
         iterate 3 refine S.sk rfl rfl rfl (wf rfl rfl rfl g61) ?_
         iterate 9 refine S.sk rfl rfl rfl (wanted_undef rfl rfl rfl) ?_
         refine S.sk rfl rfl rfl (wf rfl rfl rfl g61) ?_
         refine S.qn rfl rfl rfl rfl (r_pick rfl rfl g61) ?_
         refine S.nil (F.nil ?_)
         cases hE_3
         refine Nrm.only [1, 3, 75] rfl ?_
         refine Nrm.pick [1] rfl rfl ?_
         exact hj_2 _ _ ⟨rfl, rfl⟩
        ·replace hE_3 := if_ff g61 hE_3
         rcases Bool.eq_false_or_eq_true (decide (x3 > 0)) with g64 | g64
         ·replace hE_3 := if_tt g64 hE_3
          obtain ⟨t69, h69, hE_3⟩ := bind_some hE_3
          obtain ⟨t72, h72, hE_3⟩ := bind_some hE_3
          refine Tri.drawA mixedT Sep.up [(0, true), (1, true), (2, true), (3, true), (4, true), (5, true), (6, true), (7, true), (8, true), (9, true), (10, true), (11, true), (12, true), (13, true), (14, true), (15, true), (16, true), (17, true), (18, true), (19, true), (20, true), (21, true), (22, true), (23, true), (24, true), (25, true), (26, true), (27, true), (28, true), (29, true), (30, true), (31, true), (32, true), (33, true), (34, true), (35, true), (36, true), (37, true), (38, true), (39, true)] [] (by kernel_rfl) ?_
          refine S.qn rfl rfl rfl rfl (r_indexAddrA Try.underlying121 ti3 rfl rfl (by decide) (by decide)) ?_
          refine S.qn rfl rfl rfl rfl (r_load ta3 rfl (fun w hw => cell_1 (box_cells (i := 0) rfl w hw) rfl)) ?_
          refine S.qn rfl rfl rfl rfl (r_fieldAddr tf27_0 rfl) ?_
          refine S.qn rfl rfl rfl rfl (r_load ta3 rfl (fun w hw => cell_1 (box_cells (i := 1) rfl w hw) rfl)) ?_
          refine S.qn rfl rfl rfl rfl (r_sub rfl rfl) ?_
          refine S.qcn rfl rfl rfl rfl (q_callF (xs := _) rfl ok105 rfl rfl (fun w hw => spec_l1In.ok h41 w )) ?_
          refine S.qn rfl rfl rfl rfl (r_not rfl) ?_
          refine S.qn rfl rfl rfl rfl (r_move rfl) ?_
          refine S.qg rfl rfl rfl rfl rfl rfl g43 (r_indexAddrA Try.underlying121 ti3 rfl rfl (by decide) (by decide)) ?_
          refine S.qg rfl rfl rfl rfl rfl rfl g43 (r_load ta3 rfl (fun w hw => cell_1 (box_cells (i := 0) rfl w hw) rfl)) ?_
          refine S.qg rfl rfl rfl rfl rfl rfl g43 (r_indexAddrA Try.underlying121 ti3 rfl rfl (by decide) (by decide)) ?_
          refine S.qg rfl rfl rfl rfl rfl rfl g43 (r_load ta3 rfl (fun w hw => cell_1 (box_cells (i := 0) rfl w hw) rfl)) ?_
          refine S.qg rfl rfl rfl rfl rfl rfl g43 (r_add rfl rfl) ?_
          refine S.qg rfl rfl rfl rfl rfl rfl g43 (r_fieldAddr tf27_0 rfl) ?_
          refine S.qg rfl rfl rfl rfl rfl rfl g43 (r_load ta3 rfl (fun w hw => cell_1 (box_cells (i := 1) rfl w hw) rfl)) ?_
          refine S.qg rfl rfl rfl rfl rfl rfl g43 (r_sub rfl rfl) ?_
          refine S.qc rfl rfl rfl (wg rfl rfl rfl g43) (q_callF (xs := _) rfl ok105 rfl rfl (fun w hw => spec_l1In.ok h52 w )) ?_
          refine S.qg rfl rfl rfl rfl rfl rfl g43 (r_not rfl) ?_
          refine S.qn rfl rfl rfl rfl (r_pickf rfl rfl g43) ?_
          refine S.qn rfl rfl rfl rfl (r_move rfl) ?_
          refine S.qg rfl rfl rfl rfl rfl rfl g55 (r_indexAddrA Try.underlying121 ti3 rfl rfl (by decide) (by decide)) ?_
          refine S.qg rfl rfl rfl rfl rfl rfl g55 (r_load ta3 rfl (fun w hw => cell_1 (box_cells (i := 0) rfl w hw) rfl)) ?_
          refine S.qc rfl rfl rfl (wg rfl rfl rfl g55) (q_callF (xs := _) rfl ok92 rfl rfl (fun w hw => spec_l2Set.ok h58 w )) ?_
          refine S.qg rfl rfl rfl rfl rfl rfl g55 (r_not rfl) ?_
          refine S.qn rfl rfl rfl rfl (r_pickf rfl rfl g55) ?_
          refine S.qn rfl rfl rfl rfl (r_move rfl) ?_
          refine S.qg rfl rfl rfl rfl rfl rfl g61 (r_move rfl) ?_
          refine S.qg rfl rfl rfl rfl rfl rfl g61 (r_gtr rfl rfl) ?_
          refine S.qg rfl rfl rfl rfl rfl rfl g61 (r_move rfl) ?_
          refine S.qg rfl rfl rfl rfl rfl rfl g64 (r_fieldAddr tf27_1 rfl) ?_
          refine S.qg rfl rfl rfl rfl rfl rfl g64 (r_load ta24 rfl (fun w hw => cell_1 (box_cells (i := 1) rfl w hw) rfl)) ?_
          refine S.qg rfl rfl rfl rfl rfl rfl g64 (r_move rfl) ?_
          refine S.qg rfl rfl rfl rfl rfl rfl g64 (r_sub rfl rfl) ?_
          refine S.qg rfl rfl rfl rfl rfl rfl g64 (r_indexAddrS Try.underlying24 ti121 rfl hl_va0_1 rfl (rdl_some h69).1 (rdl_some h69).2.1) ?_
          refine S.qg rfl rfl rfl rfl rfl rfl g64 (r_loadA ta121 ti121 rfl rfl (fun w hw => (Rd.flat ((fun _ hw => hr_a0_1.sep hw) w hw) (rdl_some h69).2.2))) ?_
          refine S.qg rfl rfl rfl rfl rfl rfl g64 (r_loadA ta121 ti121 rfl rfl (fun w hw => (box_cells (i := 0) rfl w hw))) ?_
          refine S.qc rfl rfl rfl (wg rfl rfl rfl g64) (q_callF (xs := _) rfl ok213 rfl rfl (fun w hw => spec_l2Before.ok h72 w )) ?_
          refine S.qg rfl rfl rfl rfl rfl rfl g64 (r_not rfl) ?_
          refine S.qg rfl rfl rfl rfl rfl rfl g61 (r_pick rfl rfl g64) ?_
          refine S.qn rfl rfl rfl rfl (r_pickf rfl rfl g61) ?_
          refine S.nil (F.nil ?_)
          cases hE_3
          refine Nrm.only [1, 3, 75] rfl ?_
          refine Nrm.pick [1] rfl rfl ?_
          exact hj_2 _ _ ⟨rfl, rfl⟩
         ·replace hE_3 := if_ff g64 hE_3
          refine Tri.drawA mixedT Sep.up [(0, true), (1, true), (2, true), (3, true), (4, true), (5, true), (6, true), (7, true), (8, true), (9, true), (10, true), (11, true), (12, true), (13, true), (14, true), (15, true), (16, true), (17, true), (18, true), (19, true), (20, true), (21, true), (22, true), (23, true), (24, true), (25, true), (26, true), (27, true), (28, true), (29, true), (30, true), (31, true), (32, true), (33, true), (34, true), (35, true), (36, true), (37, true), (38, true), (39, true)] [] (by kernel_rfl) ?_
          refine S.qn rfl rfl rfl rfl (r_indexAddrA Try.underlying121 ti3 rfl rfl (by decide) (by decide)) ?_
          refine S.qn rfl rfl rfl rfl (r_load ta3 rfl (fun w hw => cell_1 (box_cells (i := 0) rfl w hw) rfl)) ?_
          refine S.qn rfl rfl rfl rfl (r_fieldAddr tf27_0 rfl) ?_
          refine S.qn rfl rfl rfl rfl (r_load ta3 rfl (fun w hw => cell_1 (box_cells (i := 1) rfl w hw) rfl)) ?_
          refine S.qn rfl rfl rfl rfl (r_sub rfl rfl) ?_
          refine S.qcn rfl rfl rfl rfl (q_callF (xs := _) rfl ok105 rfl rfl (fun w hw => spec_l1In.ok h41 w )) ?_
          refine S.qn rfl rfl rfl rfl (r_not rfl) ?_
          refine S.qn rfl rfl rfl rfl (r_move rfl) ?_
          refine S.qg rfl rfl rfl rfl rfl rfl g43 (r_indexAddrA Try.underlying121 ti3 rfl rfl (by decide) (by decide)) ?_
          refine S.qg rfl rfl rfl rfl rfl rfl g43 (r_load ta3 rfl (fun w hw => cell_1 (box_cells (i := 0) rfl w hw) rfl)) ?_
          refine S.qg rfl rfl rfl rfl rfl rfl g43 (r_indexAddrA Try.underlying121 ti3 rfl rfl (by decide) (by decide)) ?_
          refine S.qg rfl rfl rfl rfl rfl rfl g43 (r_load ta3 rfl (fun w hw => cell_1 (box_cells (i := 0) rfl w hw) rfl)) ?_
          refine S.qg rfl rfl rfl rfl rfl rfl g43 (r_add rfl rfl) ?_
          refine S.qg rfl rfl rfl rfl rfl rfl g43 (r_fieldAddr tf27_0 rfl) ?_
          refine S.qg rfl rfl rfl rfl rfl rfl g43 (r_load ta3 rfl (fun w hw => cell_1 (box_cells (i := 1) rfl w hw) rfl)) ?_
          refine S.qg rfl rfl rfl rfl rfl rfl g43 (r_sub rfl rfl) ?_
          refine S.qc rfl rfl rfl (wg rfl rfl rfl g43) (q_callF (xs := _) rfl ok105 rfl rfl (fun w hw => spec_l1In.ok h52 w )) ?_
          refine S.qg rfl rfl rfl rfl rfl rfl g43 (r_not rfl) ?_
          refine S.qn rfl rfl rfl rfl (r_pickf rfl rfl g43) ?_
          refine S.qn rfl rfl rfl rfl (r_move rfl) ?_
          refine S.qg rfl rfl rfl rfl rfl rfl g55 (r_indexAddrA Try.underlying121 ti3 rfl rfl (by decide) (by decide)) ?_
          refine S.qg rfl rfl rfl rfl rfl rfl g55 (r_load ta3 rfl (fun w hw => cell_1 (box_cells (i := 0) rfl w hw) rfl)) ?_
          refine S.qc rfl rfl rfl (wg rfl rfl rfl g55) (q_callF (xs := _) rfl ok92 rfl rfl (fun w hw => spec_l2Set.ok h58 w )) ?_
          refine S.qg rfl rfl rfl rfl rfl rfl g55 (r_not rfl) ?_
          refine S.qn rfl rfl rfl rfl (r_pickf rfl rfl g55) ?_
          refine S.qn rfl rfl rfl rfl (r_move rfl) ?_
          refine S.qg rfl rfl rfl rfl rfl rfl g61 (r_move rfl) ?_
          refine S.qg rfl rfl rfl rfl rfl rfl g61 (r_gtr rfl rfl) ?_
          refine S.qg rfl rfl rfl rfl rfl rfl g61 (r_move rfl) ?_
          iterate 9 refine S.sk rfl rfl rfl (wf rfl rfl rfl g64) ?_
          refine S.qg rfl rfl rfl rfl rfl rfl g61 (r_pickf rfl rfl g64) ?_
          refine S.qn rfl rfl rfl rfl (r_pickf rfl rfl g61) ?_
          refine S.nil (F.nil ?_)
          cases hE_3
          refine Nrm.only [1, 3, 75] rfl ?_
          refine Nrm.pick [1] rfl rfl ?_
          exact hj_2 _ _ ⟨rfl, rfl⟩
    ·replace hE_2 := if_ff g_2 hE_2
     refine Tri.exit ?_
     refine Exi.then ?_
     refine Exi.then ?_
     refine Exi.same ?_
     cases hE_2
     replace h := Lr_inl h
     refine Nrm.seq (Tri.seq (Tri.seq (Tri.reg (l := [0]) rfl ?_)))
     refine F.qn rfl rfl rfl rfl (r_assign rfl) ?_
     refine F.nil (Nrm.seq ?_)
     obtain ⟨s1, hE_4, h⟩ := bind_some h
     refine Tri.block ?_
     refine Tri.only [1, 5] rfl ?_
     refine Tri.pick [0] rfl rfl ?_
     refine Tri.rounds (fun n e' C' => ∃ (x5' : Int), spec_l2Maze.l1 k a0_0 a0_2 n x5' = some s1 ∧ e' = [(1, .pointer (some ⟨b1_1, 0, none⟩)), (5, .int .i64 x5')] ∧ C' = Sep w noM [R.box b1_1 27 [.int .i64 a0_0, va0_1, va0_2]]) k ?_ ?_ ?_
     ·exact ⟨0, hE_4, rfl, rfl⟩
     ·rintro _ _ ⟨_, hE_4, _⟩
      rw [spec_l2Maze.l1.eq_1] at hE_4; cases hE_4
     ·rintro n_2 _ _ ⟨x5, hE_4, rfl, rfl⟩ ih_2
      rw [spec_l2Maze.l1.eq_2] at hE_4
      refine Tri.seq (Tri.seq (Tri.reg (l := [0, 1, 2, 3]) rfl ?_))
      refine F.qn rfl rfl rfl rfl (r_move rfl) ?_
      refine F.qn rfl rfl rfl rfl (r_fieldAddr tf27_0 rfl) ?_
      refine F.qn rfl rfl rfl rfl (r_load ta3 rfl (fun w hw => cell_1 (box_cells (i := 0) rfl w hw) rfl)) ?_
      refine F.qn rfl rfl rfl rfl (r_lss rfl rfl) ?_
      refine F.nil (Nrm.seq (Tri.cond (b := decide (x5 < a0_0)) rfl (fun g_4 => ?_) (fun g_4 => ?_)))
      ·replace hE_4 := if_tt g_4 hE_4
       refine Tri.skip (Nrm.seq (Tri.seq (Tri.block ?_)))
       refine Tri.seq ?_
       obtain ⟨t85, h85, hE_4⟩ := bind_some hE_4
       obtain ⟨t87, h87, hE_4⟩ := bind_some hE_4
       refine Tri.reg (l := [0, 1, 2, 3, 4, 5, 6]) rfl ?_
       refine F.qn rfl rfl rfl rfl (r_fieldAddr tf27_2 rfl) ?_
       refine F.qn rfl rfl rfl rfl (r_load ta25 rfl (fun w hw => cell_1 (box_cells (i := 0) rfl w hw) rfl)) ?_
       refine F.qn rfl rfl rfl rfl (r_move rfl) ?_
       refine F.qn rfl rfl rfl rfl (r_indexAddrS Try.underlying25 ti3 rfl hl_va0_2 rfl (rdl_some h85).1 (rdl_some h85).2.1) ?_
       refine F.qn rfl rfl rfl rfl (r_load ta3 rfl (fun w hw => cell_0 (Rd.flat ((fun _ hw => hr_a0_2.sep hw) w hw) (rdl_some h85).2.2) rfl)) ?_
       refine F.qcn rfl rfl rfl rfl (q_callF (xs := _) rfl ok92 rfl rfl (fun w hw => spec_l2Set.ok h87 w )) ?_
       refine F.qn rfl rfl rfl rfl (r_not rfl) ?_
       refine F.nil (Nrm.seq (Tri.cond (b := !t87) rfl (fun g_5 => ?_) (fun g_5 => ?_)))
       ·replace hE_4 := if_tt g_5 hE_4
        refine Tri.seq (Tri.reg (l := [0]) rfl ?_)
        refine F.qn rfl rfl rfl rfl (r_assign rfl) ?_
        refine F.nil (Nrm.seq (Tri.ret ?_))
        refine Rtn.block ?_
        refine Rtn.then ?_
        refine Rtn.then ?_
        refine Rtn.block ?_
        refine Rtn.then ?_
        cases hE_4
        replace h := Lr_inr h
        cases h
        exact Rtn.body (.tmp rfl .nil) (fun w hw => ⟨rfl, hw.ext⟩)
       ·replace hE_4 := if_ff g_5 hE_4
        refine Tri.skip (Nrm.block ?_)
        refine Nrm.seq (Tri.reg (l := [0, 1, 2]) rfl ?_)
        refine F.qn rfl rfl rfl rfl (r_move rfl) ?_
        refine F.qn rfl rfl rfl rfl (r_add rfl rfl) ?_
        refine F.qn rfl rfl rfl rfl (r_assign rfl) ?_
        refine F.nil (Nrm.round ?_)
        refine Rnd.only [1, 5] rfl ?_
        refine Rnd.pick [0] rfl rfl ?_
        exact ih_2 _ _ ⟨w64 (x5 + 1), hE_4, rfl, rfl⟩
      ·replace hE_4 := if_ff g_4 hE_4
       refine Tri.exit ?_
       refine Exi.then ?_
       refine Exi.then ?_
       refine Exi.same ?_
       cases hE_4
       replace h := Lr_inl h
       refine Nrm.seq (Tri.seq (Tri.reg (l := [0]) rfl ?_))
       refine F.qn rfl rfl rfl rfl (r_assign rfl) ?_
       refine F.nil (Nrm.seq (Tri.ret ?_))
       cases h
       exact Rtn.body (.tmp rfl .nil) (fun w hw => ⟨rfl, hw.ext⟩)
 ·obtain ⟨t8, h8, hE_1⟩ := bind_some hE_1
  rcases Bool.eq_false_or_eq_true (!t8) with g10 | g10
  ·replace hE_1 := if_tt g10 hE_1
   refine Tri.reg (l := List.range 18) rfl ?_
   refine F.qn rfl rfl rfl rfl (r_fieldAddr tf27_0 rfl) ?_
   refine F.qn rfl rfl rfl rfl (r_load ta3 rfl (fun w hw => cell_1 (box_cells (i := 0) rfl w hw) rfl)) ?_
   refine F.qcn rfl rfl rfl rfl (q_callF (xs := _) rfl ok105 rfl rfl (fun w hw => spec_l1In.ok h8 w )) ?_
   refine F.qn rfl rfl rfl rfl (r_not rfl) ?_
   refine F.qn rfl rfl rfl rfl (r_move rfl) ?_
   iterate 4 refine F.sk rfl rfl rfl (wf rfl rfl rfl g10) ?_
   refine F.qn rfl rfl rfl rfl (r_pick rfl rfl g10) ?_
   refine F.qn rfl rfl rfl rfl (r_move rfl) ?_
   iterate 6 refine F.sk rfl rfl rfl (wf rfl rfl rfl rfl) ?_
   refine F.qn rfl rfl rfl rfl (r_pick rfl rfl rfl) ?_
   refine F.nil ?_
   cases hE_1
   refine Nrm.only [1, 23] rfl ?_
   refine Nrm.pick [0] rfl rfl ?_
   exact hj_1 _ _ ⟨rfl, rfl⟩
  ·replace hE_1 := if_ff g10 hE_1
   rcases Bool.eq_false_or_eq_true (decide ((a0_1.length : Int) > 30)) with g16 | g16
   ·replace hE_1 := if_tt g16 hE_1
    refine Tri.reg (l := List.range 18) rfl ?_
    refine F.qn rfl rfl rfl rfl (r_fieldAddr tf27_0 rfl) ?_
    refine F.qn rfl rfl rfl rfl (r_load ta3 rfl (fun w hw => cell_1 (box_cells (i := 0) rfl w hw) rfl)) ?_
    refine F.qcn rfl rfl rfl rfl (q_callF (xs := _) rfl ok105 rfl rfl (fun w hw => spec_l1In.ok h8 w )) ?_
    refine F.qn rfl rfl rfl rfl (r_not rfl) ?_
    refine F.qn rfl rfl rfl rfl (r_move rfl) ?_
    refine F.qg rfl rfl rfl rfl rfl rfl g10 (r_fieldAddr tf27_1 rfl) ?_
    refine F.qg rfl rfl rfl rfl rfl rfl g10 (r_load ta24 rfl (fun w hw => cell_1 (box_cells (i := 0) rfl w hw) rfl)) ?_
    refine F.qg rfl rfl rfl rfl rfl rfl g10 (r_len Try.underlying24 rfl hl_va0_1) ?_
    refine F.qg rfl rfl rfl rfl rfl rfl g10 (r_gtr rfl rfl) ?_
    refine F.qn rfl rfl rfl rfl (r_pickf rfl rfl g10) ?_
    refine F.qn rfl rfl rfl rfl (r_move rfl) ?_
    iterate 6 refine F.sk rfl rfl rfl (wf rfl rfl rfl g16) ?_
    refine F.qn rfl rfl rfl rfl (r_pick rfl rfl g16) ?_
    refine F.nil ?_
    cases hE_1
    refine Nrm.only [1, 23] rfl ?_
    refine Nrm.pick [0] rfl rfl ?_
    exact hj_1 _ _ ⟨rfl, rfl⟩
   ·replace hE_1 := if_ff g16 hE_1
    refine Tri.reg (l := List.range 18) rfl ?_
    refine F.qn rfl rfl rfl rfl (r_fieldAddr tf27_0 rfl) ?_
    refine F.qn rfl rfl rfl rfl (r_load ta3 rfl (fun w hw => cell_1 (box_cells (i := 0) rfl w hw) rfl)) ?_
    refine F.qcn rfl rfl rfl rfl (q_callF (xs := _) rfl ok105 rfl rfl (fun w hw => spec_l1In.ok h8 w )) ?_
    refine F.qn rfl rfl rfl rfl (r_not rfl) ?_
    refine F.qn rfl rfl rfl rfl (r_move rfl) ?_
    refine F.qg rfl rfl rfl rfl rfl rfl g10 (r_fieldAddr tf27_1 rfl) ?_
    refine F.qg rfl rfl rfl rfl rfl rfl g10 (r_load ta24 rfl (fun w hw => cell_1 (box_cells (i := 0) rfl w hw) rfl)) ?_
    refine F.qg rfl rfl rfl rfl rfl rfl g10 (r_len Try.underlying24 rfl hl_va0_1) ?_
    refine F.qg rfl rfl rfl rfl rfl rfl g10 (r_gtr rfl rfl) ?_
    refine F.qn rfl rfl rfl rfl (r_pickf rfl rfl g10) ?_
    refine F.qn rfl rfl rfl rfl (r_move rfl) ?_
    refine F.qg rfl rfl rfl rfl rfl rfl g16 (r_fieldAddr tf27_2 rfl) ?_
    refine F.qg rfl rfl rfl rfl rfl rfl g16 (r_load ta25 rfl (fun w hw => cell_1 (box_cells (i := 0) rfl w hw) rfl)) ?_
    refine F.qg rfl rfl rfl rfl rfl rfl g16 (r_len Try.underlying25 rfl hl_va0_2) ?_
    refine F.qg rfl rfl rfl rfl rfl rfl g16 (r_fieldAddr tf27_0 rfl) ?_
    refine F.qg rfl rfl rfl rfl rfl rfl g16 (r_load ta3 rfl (fun w hw => cell_1 (box_cells (i := 0) rfl w hw) rfl)) ?_
    refine F.qg rfl rfl rfl rfl rfl rfl g16 (r_neq rfl rfl) ?_
    refine F.qn rfl rfl rfl rfl (r_pickf rfl rfl g16) ?_
    refine F.nil ?_
    cases hE_1
    refine Nrm.only [1, 23] rfl ?_
    refine Nrm.pick [0] rfl rfl ?_
    exact hj_1 _ _ ⟨rfl, rfl⟩


def spec_l9Ask.f (k : Nat) (a0_0 : Int) (a0_1 : List (Int × Int × Int)) (a0_2 : List Int) (a1 : Int) : Option (Bool) := ((spec_l2Maze.f k a0_0 a0_1 a0_2).bind fun t6 => (if t6 = true then (spec_l2Set.f k a1).bind fun t9 => some t9 else some false)).bind fun y4 => some y4

theorem spec_l9Ask.ok {k : Nat}  {a0_0 : Int} {a0_1 : List (Int × Int × Int)} {a0_2 : List Int} {a1 : Int} {r0 : Bool} (h : spec_l9Ask.f k a0_0 a0_1 a0_2 a1 = some r0) (w : World) {va0_1 : Value} {va0_2 : Value} (hr_a0_1 : Rd w va0_1 a0_1) (hr_a0_2 : Rd w va0_2 a0_2) :
  Calls Try.prog 117 ([.agg ([.int .i64 a0_0, va0_1, va0_2].toArray), .int .i64 a1] : List Value).toArray w (fun e w' => e = .returned (.bool r0) ∧ Ext w w') := by
 unfold spec_l9Ask.f at h
 have hl_va0_1 := hr_a0_1.len
 have hl_va0_2 := hr_a0_2.len
 refine Calls.of_tri (N := 11) Try.func117 rfl rfl rfl (Sep.nil (M := noM)) ?_
 refine Tri.seq (Tri.reg (l := [0, 1]) rfl ?_)
 refine F.mn rfl rfl rfl rfl (m_boxG rfl rfl) ?_
 rintro _ _ ⟨b2_1, rfl, rfl⟩
 refine F.qn rfl rfl rfl rfl (r_assign rfl) ?_
 refine F.nil (Nrm.seq (Tri.seq ?_))
 obtain ⟨y4, hE_1, h⟩ := bind_some h
 refine Tri.cut (fun e' C' => e' = [(4, .bool y4)] ∧ C' = Sep w noM []) ?_ (fun hj_1 => ?_)
 ·rintro _ _ ⟨rfl, rfl⟩
  refine Nrm.seq (Tri.ret ?_)
  cases h
  exact Rtn.body (.tmp rfl .nil) (fun w hw => ⟨rfl, hw.ext⟩)
 ·obtain ⟨t6, h6, hE_1⟩ := bind_some hE_1
  rcases Bool.eq_false_or_eq_true (t6) with g7 | g7
  ·replace hE_1 := if_tt g7 hE_1
   obtain ⟨t9, h9, hE_1⟩ := bind_some hE_1
   refine Tri.reg (l := [0, 1, 2, 3, 4, 5, 6]) rfl ?_
   refine F.qn rfl rfl rfl rfl (r_loadA ta27 ti27 rfl rfl (fun w hw => (box_cells (i := 0) rfl w hw))) ?_
   refine F.qcn rfl rfl rfl rfl (q_callF (xs := _) rfl ok184 rfl rfl (fun w hw => spec_l2Maze.ok h6 w ((fun _ hw => hr_a0_1.sep hw) w hw) ((fun _ hw => hr_a0_2.sep hw) w hw))) ?_
   refine F.qn rfl rfl rfl rfl (r_move rfl) ?_
   refine F.qg rfl rfl rfl rfl rfl rfl g7 (r_move rfl) ?_
   refine F.qc rfl rfl rfl (wg rfl rfl rfl g7) (q_callF (xs := _) rfl ok92 rfl rfl (fun w hw => spec_l2Set.ok h9 w )) ?_
   refine F.qn rfl rfl rfl rfl (r_pick rfl rfl g7) ?_
   refine F.qn rfl rfl rfl rfl (r_assign rfl) ?_
   refine F.nil ?_
   cases hE_1
   refine Nrm.only [4] rfl ?_
   refine Nrm.pick [] rfl rfl ?_
   exact hj_1 _ _ ⟨rfl, rfl⟩
  ·replace hE_1 := if_ff g7 hE_1
   refine Tri.reg (l := [0, 1, 2, 3, 4, 5, 6]) rfl ?_
   refine F.qn rfl rfl rfl rfl (r_loadA ta27 ti27 rfl rfl (fun w hw => (box_cells (i := 0) rfl w hw))) ?_
   refine F.qcn rfl rfl rfl rfl (q_callF (xs := _) rfl ok184 rfl rfl (fun w hw => spec_l2Maze.ok h6 w ((fun _ hw => hr_a0_1.sep hw) w hw) ((fun _ hw => hr_a0_2.sep hw) w hw))) ?_
   refine F.qn rfl rfl rfl rfl (r_move rfl) ?_
   refine F.sk rfl rfl rfl (wf rfl rfl rfl g7) ?_
   refine F.sk rfl rfl rfl (wf rfl rfl rfl g7) ?_
   refine F.qn rfl rfl rfl rfl (r_pickf rfl rfl g7) ?_
   refine F.qn rfl rfl rfl rfl (r_assign rfl) ?_
   refine F.nil ?_
   cases hE_1
   refine Nrm.only [4] rfl ?_
   refine Nrm.pick [] rfl rfl ?_
   exact hj_1 _ _ ⟨rfl, rfl⟩


def spec_l2Many.l0 (k : Nat) : Nat → Int → Int → Option (Int)
 | 0, _, _ => none
 | n + 1, x0, x3 => (if (decide (x0 > 0)) = true then spec_l2Many.l0 k n (shr x0 1) (w64 (x3 + (band x0 1))) else some x3)

def spec_l2Many.f (k : Nat) (a0 : Int) : Option (Int) := (spec_l2Many.l0 k k a0 0).bind fun x3 => some x3

theorem spec_l2Many.ok {k : Nat}  {a0 : Int} {r0 : Int} (h : spec_l2Many.f k a0 = some r0) (w : World) :
  Calls Try.prog 119 ([.int .i64 a0] : List Value).toArray w (fun e w' => e = .returned (.int .i64 r0) ∧ Ext w w') := by
 unfold spec_l2Many.f at h
 refine Calls.of_tri (N := 13) Try.func119 rfl rfl rfl (Sep.nil (M := noM)) ?_
 refine Tri.seq (Tri.reg (l := [0]) rfl ?_)
 refine F.qn rfl rfl rfl rfl (r_assign rfl) ?_
 refine F.nil (Nrm.seq (Tri.seq (Tri.reg (l := [0]) rfl ?_)))
 refine F.qn rfl rfl rfl rfl (r_assign rfl) ?_
 refine F.nil (Nrm.seq (Tri.seq ?_))
 obtain ⟨x3, hE_1, h⟩ := bind_some h
 refine Tri.block ?_
 refine Tri.only [0, 3] rfl ?_
 refine Tri.pick [] rfl rfl ?_
 refine Tri.rounds (fun n e' C' => ∃ (x0' : Int) (x3' : Int), spec_l2Many.l0 k n x0' x3' = some x3 ∧ e' = [(0, .int .i64 x0'), (3, .int .i64 x3')] ∧ C' = Sep w noM []) k ?_ ?_ ?_
 ·exact ⟨a0, 0, hE_1, rfl, rfl⟩
 ·rintro _ _ ⟨_, _, hE_1, _⟩
  rw [spec_l2Many.l0.eq_1] at hE_1; cases hE_1
 ·rintro n_1 _ _ ⟨x0, x3, hE_1, rfl, rfl⟩ ih_1
  rw [spec_l2Many.l0.eq_2] at hE_1
  refine Tri.seq (Tri.seq (Tri.reg (l := [0, 1]) rfl ?_))
  refine F.qn rfl rfl rfl rfl (r_move rfl) ?_
  refine F.qn rfl rfl rfl rfl (r_gtr rfl rfl) ?_
  refine F.nil (Nrm.seq (Tri.cond (b := decide (x0 > 0)) rfl (fun g_1 => ?_) (fun g_1 => ?_)))
  ·replace hE_1 := if_tt g_1 hE_1
   refine Tri.skip (Nrm.seq (Tri.block ?_))
   refine Tri.seq (Tri.reg (l := [0, 1, 2, 3, 4]) rfl ?_)
   refine F.qn rfl rfl rfl rfl (r_move rfl) ?_
   refine F.qn rfl rfl rfl rfl (r_move rfl) ?_
   refine F.qn rfl rfl rfl rfl (r_and rfl rfl) ?_
   refine F.qn rfl rfl rfl rfl (r_add rfl rfl) ?_
   refine F.qn rfl rfl rfl rfl (r_assign rfl) ?_
   refine F.nil (Nrm.seq (Tri.reg (l := [0, 1, 2]) rfl ?_))
   refine F.qn rfl rfl rfl rfl (r_move rfl) ?_
   refine F.qn rfl rfl rfl rfl (r_shr rfl rfl (by decide)) ?_
   refine F.qn rfl rfl rfl rfl (r_assign rfl) ?_
   refine F.nil (Nrm.block ?_)
   refine Nrm.round ?_
   refine Rnd.only [0, 3] rfl ?_
   refine Rnd.pick [] rfl rfl ?_
   exact ih_1 _ _ ⟨shr x0 1, w64 (x3 + (band x0 1)), hE_1, rfl, rfl⟩
  ·replace hE_1 := if_ff g_1 hE_1
   refine Tri.exit ?_
   refine Exi.then ?_
   refine Exi.then ?_
   refine Exi.same ?_
   cases hE_1
   refine Nrm.seq (Tri.seq (Tri.reg (l := [0, 1]) rfl ?_))
   refine F.qn rfl rfl rfl rfl (r_move rfl) ?_
   refine F.qn rfl rfl rfl rfl (r_assign rfl) ?_
   refine F.nil (Nrm.seq (Tri.ret ?_))
   cases h
   exact Rtn.body (.tmp rfl .nil) (fun w hw => ⟨rfl, hw.ext⟩)


def spec_l9Few.f (k : Nat) (a0_0 : Int) (a0_1 : List (Int × Int × Int)) (a0_2 : List Int) (a1 : Int) : Option (Bool) := ((spec_l9Ask.f k a0_0 a0_1 a0_2 a1).bind fun t7 => (if t7 = true then (if (decide (a0_0 ≤ 8)) = true then (spec_l2Many.f k a1).bind fun t15 => some (decide (t15 ≤ 4)) else some false) else some false)).bind fun y4 => some y4

theorem spec_l9Few.ok {k : Nat}  {a0_0 : Int} {a0_1 : List (Int × Int × Int)} {a0_2 : List Int} {a1 : Int} {r0 : Bool} (h : spec_l9Few.f k a0_0 a0_1 a0_2 a1 = some r0) (w : World) {va0_1 : Value} {va0_2 : Value} (hr_a0_1 : Rd w va0_1 a0_1) (hr_a0_2 : Rd w va0_2 a0_2) :
  Calls Try.prog 88 ([.agg ([.int .i64 a0_0, va0_1, va0_2].toArray), .int .i64 a1] : List Value).toArray w (fun e w' => e = .returned (.bool r0) ∧ Ext w w') := by
 unfold spec_l9Few.f at h
 have hl_va0_1 := hr_a0_1.len
 have hl_va0_2 := hr_a0_2.len
 refine Calls.of_tri (N := 18) Try.func88 rfl rfl rfl (Sep.nil (M := noM)) ?_
 refine Tri.seq (Tri.reg (l := [0, 1]) rfl ?_)
 refine F.mn rfl rfl rfl rfl (m_boxG rfl rfl) ?_
 rintro _ _ ⟨b2_1, rfl, rfl⟩
 refine F.qn rfl rfl rfl rfl (r_assign rfl) ?_
 refine F.nil (Nrm.seq (Tri.seq ?_))
 obtain ⟨y4, hE_1, h⟩ := bind_some h
 refine Tri.cut (fun e' C' => e' = [(4, .bool y4)] ∧ C' = Sep w noM []) ?_ (fun hj_1 => ?_)
 ·rintro _ _ ⟨rfl, rfl⟩
  refine Nrm.seq (Tri.ret ?_)
  cases h
  exact Rtn.body (.tmp rfl .nil) (fun w hw => ⟨rfl, hw.ext⟩)
 ·obtain ⟨t7, h7, hE_1⟩ := bind_some hE_1
  rcases Bool.eq_false_or_eq_true (t7) with g8 | g8
  ·replace hE_1 := if_tt g8 hE_1
   rcases Bool.eq_false_or_eq_true (decide (a0_0 ≤ 8)) with g13 | g13
   ·replace hE_1 := if_tt g13 hE_1
    obtain ⟨t15, h15, hE_1⟩ := bind_some hE_1
    refine Tri.reg (l := List.range 14) rfl ?_
    refine F.qn rfl rfl rfl rfl (r_loadA ta27 ti27 rfl rfl (fun w hw => (box_cells (i := 0) rfl w hw))) ?_
    refine F.qn rfl rfl rfl rfl (r_move rfl) ?_
    refine F.qcn rfl rfl rfl rfl (q_callF (xs := _) rfl ok117 rfl rfl (fun w hw => spec_l9Ask.ok h7 w ((fun _ hw => hr_a0_1.sep hw) w hw) ((fun _ hw => hr_a0_2.sep hw) w hw))) ?_
    refine F.qn rfl rfl rfl rfl (r_move rfl) ?_
    refine F.qg rfl rfl rfl rfl rfl rfl g8 (r_fieldAddr tf27_0 rfl) ?_
    refine F.qg rfl rfl rfl rfl rfl rfl g8 (r_load ta3 rfl (fun w hw => cell_1 (box_cells (i := 0) rfl w hw) rfl)) ?_
    refine F.qg rfl rfl rfl rfl rfl rfl g8 (r_leq rfl rfl) ?_
    refine F.qn rfl rfl rfl rfl (r_pick rfl rfl g8) ?_
    refine F.qn rfl rfl rfl rfl (r_move rfl) ?_
    refine F.qg rfl rfl rfl rfl rfl rfl g13 (r_move rfl) ?_
    refine F.qc rfl rfl rfl (wg rfl rfl rfl g13) (q_callF (xs := _) rfl ok119 rfl rfl (fun w hw => spec_l2Many.ok h15 w )) ?_
    refine F.qg rfl rfl rfl rfl rfl rfl g13 (r_leq rfl rfl) ?_
    refine F.qn rfl rfl rfl rfl (r_pick rfl rfl g13) ?_
    refine F.qn rfl rfl rfl rfl (r_assign rfl) ?_
    refine F.nil ?_
    cases hE_1
    refine Nrm.only [4] rfl ?_
    refine Nrm.pick [] rfl rfl ?_
    exact hj_1 _ _ ⟨rfl, rfl⟩
   ·replace hE_1 := if_ff g13 hE_1
    refine Tri.reg (l := List.range 14) rfl ?_
    refine F.qn rfl rfl rfl rfl (r_loadA ta27 ti27 rfl rfl (fun w hw => (box_cells (i := 0) rfl w hw))) ?_
    refine F.qn rfl rfl rfl rfl (r_move rfl) ?_
    refine F.qcn rfl rfl rfl rfl (q_callF (xs := _) rfl ok117 rfl rfl (fun w hw => spec_l9Ask.ok h7 w ((fun _ hw => hr_a0_1.sep hw) w hw) ((fun _ hw => hr_a0_2.sep hw) w hw))) ?_
    refine F.qn rfl rfl rfl rfl (r_move rfl) ?_
    refine F.qg rfl rfl rfl rfl rfl rfl g8 (r_fieldAddr tf27_0 rfl) ?_
    refine F.qg rfl rfl rfl rfl rfl rfl g8 (r_load ta3 rfl (fun w hw => cell_1 (box_cells (i := 0) rfl w hw) rfl)) ?_
    refine F.qg rfl rfl rfl rfl rfl rfl g8 (r_leq rfl rfl) ?_
    refine F.qn rfl rfl rfl rfl (r_pick rfl rfl g8) ?_
    refine F.qn rfl rfl rfl rfl (r_move rfl) ?_
    iterate 3 refine F.sk rfl rfl rfl (wf rfl rfl rfl g13) ?_
    refine F.qn rfl rfl rfl rfl (r_pickf rfl rfl g13) ?_
    refine F.qn rfl rfl rfl rfl (r_assign rfl) ?_
    refine F.nil ?_
    cases hE_1
    refine Nrm.only [4] rfl ?_
    refine Nrm.pick [] rfl rfl ?_
    exact hj_1 _ _ ⟨rfl, rfl⟩
  ·replace hE_1 := if_ff g8 hE_1
   refine Tri.reg (l := List.range 14) rfl ?_
   refine F.qn rfl rfl rfl rfl (r_loadA ta27 ti27 rfl rfl (fun w hw => (box_cells (i := 0) rfl w hw))) ?_
   refine F.qn rfl rfl rfl rfl (r_move rfl) ?_
   refine F.qcn rfl rfl rfl rfl (q_callF (xs := _) rfl ok117 rfl rfl (fun w hw => spec_l9Ask.ok h7 w ((fun _ hw => hr_a0_1.sep hw) w hw) ((fun _ hw => hr_a0_2.sep hw) w hw))) ?_
   refine F.qn rfl rfl rfl rfl (r_move rfl) ?_
   iterate 3 refine F.sk rfl rfl rfl (wf rfl rfl rfl g8) ?_
   refine F.qn rfl rfl rfl rfl (r_pickf rfl rfl g8) ?_
   refine F.qn rfl rfl rfl rfl (r_move rfl) ?_
   iterate 3 refine F.sk rfl rfl rfl (wf rfl rfl rfl rfl) ?_
   refine F.qn rfl rfl rfl rfl (r_pickf rfl rfl rfl) ?_
   refine F.qn rfl rfl rfl rfl (r_assign rfl) ?_
   refine F.nil ?_
   cases hE_1
   refine Nrm.only [4] rfl ?_
   refine Nrm.pick [] rfl rfl ?_
   exact hj_1 _ _ ⟨rfl, rfl⟩


def spec_l2Colours.l0 (k : Nat) (a0 : Int) : Nat → (List (Int)) → Int → Option ((List (Int)))
 | 0, _, _ => none
 | n + 1, x3, x4 => (if (decide (x4 < 6)) = true then if ¬ x4 < 0 then ((if ((band (shr a0 x4) 1) == 1) = true then if (x3 ++ ([x4] : List (Int))).length < 1099511627776 then some (x3 ++ ([x4] : List (Int))) else none else some x3)).bind fun y3 => spec_l2Colours.l0 k a0 n y3 (w64 (x4 + 1)) else none else some x3)

def spec_l2Colours.f (k : Nat) (a0 : Int) : Option ((List Int)) := (spec_l2Colours.l0 k a0 k ([] : List (Int)) 0).bind fun x3 => some x3

theorem spec_l2Colours.ok {k : Nat}  {a0 : Int} {r0 : List Int} (h : spec_l2Colours.f k a0 = some r0) (w : World) :
  Calls Try.prog 94 ([.int .i64 a0] : List Value).toArray w (Post (fun u ns => ∃ (Sr0 : Nat → Prop), SlLen u r0.length ∧ ns = [R.sl Sr0 u r0]) w) := by
 unfold spec_l2Colours.f at h
 refine Calls.of_tri (N := 20) Try.func94 rfl rfl rfl (Sep.nil (M := noM)) ?_
 refine Tri.seq (Tri.reg (l := [0]) rfl ?_)
 refine F.qn rfl rfl rfl rfl (r_assign rfl) ?_
 refine F.nil (Nrm.seq (Tri.seq (Tri.reg (l := [0, 1]) rfl ?_)))
 refine F.mn rfl rfl rfl rfl (m_build0 (α := Int) Try.underlying25 ti3) ?_
 rintro v5_1 _ ⟨S5_1, hl_v5_1, rfl⟩
 refine F.qn rfl rfl rfl rfl (r_assign rfl) ?_
 refine F.nil (Nrm.seq (Tri.seq (Tri.seq (Tri.reg (l := [0]) rfl ?_))))
 refine F.qn rfl rfl rfl rfl (r_assign rfl) ?_
 refine F.nil (Nrm.seq ?_)
 obtain ⟨x3, hE_1, h⟩ := bind_some h
 refine Tri.block ?_
 refine Tri.only [0, 3, 4] rfl ?_
 refine Tri.pick [0] rfl rfl ?_
 refine Tri.rounds (fun n e' C' => ∃ (x3' : List (Int)) (x4' : Int) (w3 : Value) (T3 : Nat → Prop), spec_l2Colours.l0 k a0 n x3' x4' = some x3 ∧ SlLen w3 (x3').length ∧ e' = [(0, .int .i64 a0), (3, w3), (4, .int .i64 x4')] ∧ C' = Sep w noM [R.sl T3 w3 (x3' : List (Int))]) k ?_ ?_ ?_
 ·exact ⟨([] : List (Int)), 0, v5_1, S5_1, hE_1, hl_v5_1, rfl, rfl⟩
 ·rintro _ _ ⟨_, _, _, _, hE_1, _⟩
  rw [spec_l2Colours.l0.eq_1] at hE_1; cases hE_1
 ·rintro n_1 _ _ ⟨x3, x4, w3, T3, hE_1, hl_w3, rfl, rfl⟩ ih_1
  rw [spec_l2Colours.l0.eq_2] at hE_1
  refine Tri.seq (Tri.seq (Tri.reg (l := [0, 1]) rfl ?_))
  refine F.qn rfl rfl rfl rfl (r_move rfl) ?_
  refine F.qn rfl rfl rfl rfl (r_lss rfl rfl) ?_
  refine F.nil (Nrm.seq (Tri.cond (b := decide (x4 < 6)) rfl (fun g_1 => ?_) (fun g_1 => ?_)))
  ·replace hE_1 := if_tt g_1 hE_1
   refine Tri.skip (Nrm.seq (Tri.seq (Tri.block ?_)))
   refine Tri.seq ?_
   obtain ⟨hs12, hE_1⟩ := ck hE_1
   refine Tri.reg (l := [0, 1, 2, 3, 4]) rfl ?_
   refine F.qn rfl rfl rfl rfl (r_move rfl) ?_
   refine F.qn rfl rfl rfl rfl (r_move rfl) ?_
   refine F.qn rfl rfl rfl rfl (r_shr rfl rfl hs12) ?_
   refine F.qn rfl rfl rfl rfl (r_and rfl rfl) ?_
   refine F.qn rfl rfl rfl rfl (r_eql rfl rfl) ?_
   refine F.nil (Nrm.seq ?_)
   obtain ⟨y3, hE_2, hE_1⟩ := bind_some hE_1
   refine Tri.cut (fun e' C' => ∃ (v3_1 : Value) (S3_1 : Nat → Prop), SlLen v3_1 (y3).length ∧ e' = [(0, .int .i64 a0), (3, v3_1), (4, .int .i64 x4)] ∧ C' = Sep w noM [R.sl S3_1 v3_1 (y3 : List (Int))]) ?_ (fun hj_1 => ?_)
   ·rintro _ _ ⟨v3_1, S3_1, hl_v3_1, rfl, rfl⟩
    refine Nrm.block ?_
    refine Nrm.seq (Tri.reg (l := [0, 1, 2]) rfl ?_)
    refine F.qn rfl rfl rfl rfl (r_move rfl) ?_
    refine F.qn rfl rfl rfl rfl (r_add rfl rfl) ?_
    refine F.qn rfl rfl rfl rfl (r_assign rfl) ?_
    refine F.nil (Nrm.round ?_)
    refine Rnd.only [0, 3, 4] rfl ?_
    refine Rnd.pick [0] rfl rfl ?_
    exact ih_1 _ _ ⟨y3, w64 (x4 + 1), v3_1, S3_1, hE_1, hl_v3_1, rfl, rfl⟩
   ·refine Tri.cond (b := (band (shr a0 x4) 1) == 1) rfl (fun g_2 => ?_) (fun g_2 => ?_)
    ·replace hE_2 := if_tt g_2 hE_2
     obtain ⟨hs18, hE_2⟩ := ck hE_2
     refine Tri.reg (l := [0, 1, 2, 3, 4]) rfl ?_
     refine F.qn rfl rfl rfl rfl (r_move rfl) ?_
     refine F.qn rfl rfl rfl rfl (r_move rfl) ?_
     refine F.mn rfl rfl rfl rfl (m_buildF (l := ([x4] : List (Int))) Try.underlying25 ti3 rfl rfl rfl rfl rfl) ?_
     rintro v17_1 _ ⟨S17_1, hl_v17_1, rfl⟩
     refine F.efn rfl rfl rfl rfl (d_append (i := 1) Try.underlying25 Try.underlying25 ti3 rfl (by decide) rfl rfl rfl (rd_sl (i := 0) rfl) hs18) ?_
     rintro v18_1 _ ⟨S18_1, rfl, hl_v18_1⟩
     refine F.qn rfl rfl rfl rfl (r_assign rfl) ?_
     refine F.nil ?_
     cases hE_2
     refine Nrm.only [0, 3, 4] rfl ?_
     refine Nrm.pick [1] rfl rfl ?_
     exact hj_1 _ _ ⟨v18_1, S18_1, hl_v18_1, rfl, rfl⟩
    ·replace hE_2 := if_ff g_2 hE_2
     refine Tri.skip ?_
     cases hE_2
     refine Nrm.only [0, 3, 4] rfl ?_
     refine Nrm.pick [0] rfl rfl ?_
     exact hj_1 _ _ ⟨w3, T3, hl_w3, rfl, rfl⟩
  ·replace hE_1 := if_ff g_1 hE_1
   refine Tri.exit ?_
   refine Exi.then ?_
   refine Exi.then ?_
   refine Exi.same ?_
   cases hE_1
   refine Nrm.seq (Tri.seq (Tri.reg (l := [0, 1]) rfl ?_))
   refine F.qn rfl rfl rfl rfl (r_move rfl) ?_
   refine F.qn rfl rfl rfl rfl (r_assign rfl) ?_
   refine F.nil (Nrm.seq (Tri.ret ?_))
   cases h
   exact Rtn.body (.tmp rfl .nil) (fun w hw => ⟨_, _, rfl, ⟨T3, hl_w3, rfl⟩, Sep.pick (is := [0]) rfl rfl hw⟩)


def spec_l1Own.f (k : Nat) (a0 : List Int) : Option ((List Int)) := if (([] : List (Int)) ++ a0).length < 1099511627776 then some (([] : List (Int)) ++ a0) else none

theorem spec_l1Own.ok {k : Nat}  {a0 : List Int} {r0 : List Int} (h : spec_l1Own.f k a0 = some r0) (w : World) {va0 : Value} (hr_a0 : Rd w va0 a0) :
  Calls Try.prog 183 ([va0] : List Value).toArray w (Post (fun u ns => ∃ (Sr0 : Nat → Prop), SlLen u r0.length ∧ ns = [R.sl Sr0 u r0]) w) := by
 unfold spec_l1Own.f at h
 have hl_va0 := hr_a0.len
 refine Calls.of_tri (N := 6) Try.func183 rfl rfl rfl (Sep.nil (M := noM)) ?_
 refine Tri.seq (Tri.reg (l := [0]) rfl ?_)
 refine F.qn rfl rfl rfl rfl (r_assign rfl) ?_
 refine F.nil (Nrm.seq (Tri.seq ?_))
 obtain ⟨hs5, h⟩ := ck h
 refine Tri.reg (l := [0, 1, 2, 3]) rfl ?_
 refine F.mn rfl rfl rfl rfl (m_build0 (α := Int) Try.underlying25 ti3) ?_
 rintro v3_1 _ ⟨S3_1, hl_v3_1, rfl⟩
 refine F.qn rfl rfl rfl rfl (r_move rfl) ?_
 refine F.efn rfl rfl rfl rfl (d_append (i := 0) Try.underlying25 Try.underlying25 ti3 rfl (by decide) rfl rfl rfl (fun _ hw => hr_a0.sep hw) hs5) ?_
 rintro v5_1 _ ⟨S5_1, rfl, hl_v5_1⟩
 refine F.qn rfl rfl rfl rfl (r_assign rfl) ?_
 refine F.nil (Nrm.seq (Tri.ret ?_))
 cases h
 exact Rtn.body (.tmp rfl .nil) (fun w hw => ⟨_, _, rfl, ⟨S5_1, hl_v5_1, rfl⟩, Sep.pick (is := [0]) rfl rfl hw⟩)


def spec_l2Own.f (k : Nat) (a0_0 : Int) (a0_1 : List (Int × Int × Int)) (a0_2 : List Int) : Option (Int × (List (Int × Int × Int)) × (List Int)) := if (([] : List (Int × Int × Int)) ++ a0_1).length < 1099511627776 then (spec_l1Own.f k a0_2).bind fun t11 => some (a0_0, ([] : List (Int × Int × Int)) ++ a0_1, t11) else none

theorem spec_l2Own.ok {k : Nat}  {a0_0 : Int} {a0_1 : List (Int × Int × Int)} {a0_2 : List Int} {r0 : Int} {r1 : List (Int × Int × Int)} {r2 : List Int} (h : spec_l2Own.f k a0_0 a0_1 a0_2 = some (r0, r1, r2)) (w : World) {va0_1 : Value} {va0_2 : Value} (hr_a0_1 : Rd w va0_1 a0_1) (hr_a0_2 : Rd w va0_2 a0_2) :
  Calls Try.prog 182 ([.agg ([.int .i64 a0_0, va0_1, va0_2].toArray)] : List Value).toArray w (Post (fun u ns => ∃ (ur1 : Value) (Sr1 : Nat → Prop) (ur2 : Value) (Sr2 : Nat → Prop), u = .agg [.int .i64 r0, ur1, ur2].toArray ∧ SlLen ur1 r1.length ∧ SlLen ur2 r2.length ∧ ns = [R.sl Sr1 ur1 r1, R.sl Sr2 ur2 r2]) w) := by
 unfold spec_l2Own.f at h
 have hl_va0_1 := hr_a0_1.len
 have hl_va0_2 := hr_a0_2.len
 refine Calls.of_tri (N := 13) Try.func182 rfl rfl rfl (Sep.nil (M := noM)) ?_
 refine Tri.seq (Tri.reg (l := [0, 1]) rfl ?_)
 refine F.mn rfl rfl rfl rfl (m_boxG rfl rfl) ?_
 rintro _ _ ⟨b1_1, rfl, rfl⟩
 refine F.mn rfl rfl rfl rfl (m_alloc ti27) ?_
 rintro _ _ ⟨b2_1, rfl, rfl⟩
 refine F.nil (Nrm.seq (Tri.seq ?_))
 obtain ⟨hs8, h⟩ := ck h
 obtain ⟨t11, h11, h⟩ := bind_some h
 refine Tri.drawB mixedT Sep.up [(0, true), (1, true), (3, true), (4, true), (6, true), (7, true), (2, false), (5, false), (8, false)] [9, 10] (by kernel_rfl) ?_
 refine B.q rfl rfl rfl (wanted_none rfl) (r_fieldAddr tf27_0 rfl) ?_
 refine B.q rfl rfl rfl (wanted_none rfl) (r_load ta3 rfl (fun w hw => cell_1 (box_cells (i := 1) rfl w hw) rfl)) ?_
 refine B.q rfl rfl rfl (wanted_none rfl) (r_fieldAddr tf27_1 rfl) ?_
 refine B.q rfl rfl rfl (wanted_none rfl) (r_load ta24 rfl (fun w hw => cell_1 (box_cells (i := 1) rfl w hw) rfl)) ?_
 refine B.q rfl rfl rfl (wanted_none rfl) (r_fieldAddr tf27_2 rfl) ?_
 refine B.q rfl rfl rfl (wanted_none rfl) (r_load ta25 rfl (fun w hw => cell_1 (box_cells (i := 1) rfl w hw) rfl)) ?_
 refine B.ef rfl rfl rfl (wanted_none rfl) (Makes.does (m_build0 (α := Int × Int × Int) Try.underlying24 ti121)) (by rintro v5_2 _ ⟨S5_2, hl_v5_2, rfl⟩; exact upd rfl [1, 2] rfl rfl) ?_
 rintro v5_2 _ ⟨S5_2, hl_v5_2, rfl⟩
 refine B.ef rfl rfl rfl (wanted_none rfl) (d_append (i := 0) Try.underlying24 Try.underlying24 ti121 rfl (by decide) rfl rfl rfl (fun _ hw => hr_a0_1.sep hw) hs8) (by rintro v8_2 _ ⟨S8_2, rfl, hl_v8_2⟩; exact upd rfl [1, 2] rfl rfl) ?_
 rintro v8_2 _ ⟨S8_2, rfl, hl_v8_2⟩
 refine B.ef rfl rfl rfl (wanted_none rfl) (Makes.does (m_callF (xs := _) rfl ok183 rfl rfl (fun w hw => spec_l1Own.ok h11 w ((fun _ hw => hr_a0_2.sep hw) w hw)))) (by rintro v11_2 _ ⟨_, ⟨S11_2, hl_v11_2, rfl⟩, rfl⟩; exact upd rfl [2, 3] rfl rfl) ?_
 rintro v11_2 _ ⟨_, ⟨S11_2, hl_v11_2, rfl⟩, rfl⟩
 refine B.nil ?_
 refine F.qn rfl rfl rfl rfl (r_build (pl := [(0, 1), (1, 1), (2, 1)]) (qs := [(0, [.int .i64 a0_0]), (1, [v8_2]), (2, [v11_2])]) (cs := [.int .i64 a0_0, v8_2, v11_2]) (by kernel_rfl) ti27 rfl (.cons rfl rfl (Nat.le_of_ble_eq_true rfl) (.cons (sl_cells hl_v8_2) rfl (Nat.le_of_ble_eq_true rfl) (.cons (sl_cells hl_v11_2) rfl (Nat.le_of_ble_eq_true rfl) .nil))) rfl rfl) ?_
 refine F.ef0 rfl rfl (wanted_none rfl) (d_storeG0 (i := 2) (cs2 := [.int .i64 a0_0, v8_2, v11_2]) ti27 rfl rfl rfl rfl rfl (Nat.le_of_ble_eq_true rfl) (lf_cons rfl (lf_cons (sl_leaf hl_v8_2) (lf_cons (sl_leaf hl_v11_2) lf_nil)))) ?_
 rintro _ _ ⟨rfl, rfl⟩
 refine F.nil (Nrm.seq (Tri.ret ?_))
 cases h
 exact Rtn.body (.cell rfl ta27 ti27 rfl (fun _ hw => box_cells (i := 2) rfl _ hw) .nil) (fun w hw => ⟨_, _, rfl, ⟨v8_2, S8_2, v11_2, S11_2, rfl, hl_v8_2, hl_v11_2, rfl⟩, Sep.pick (is := [1, 0]) rfl rfl hw⟩)


def spec_l9Lay.l1 (k : Nat) (a1 : List Int) (a2 : List Int) : Nat → Int → (List (Int)) → Option ((List (Int)))
 | 0, _, _ => none
 | n + 1, x9, xq7_1_2r => (if (decide (x9 < (a2.length : Int))) = true then (rdl a2 x9).bind fun t32 => (rdl a2 x9).bind fun t38 => (rdl xq7_1_2r t38).bind fun t40 => (rdl a1 x9).bind fun t44 => if ¬ t44 < 0 then (rdl xq7_1_2r t32).bind fun t48 => spec_l9Lay.l1 k a1 a2 n (w64 (x9 + 1)) (xq7_1_2r.set t32.toNat (bor t40 (shl 1 t44))) else none else some xq7_1_2r)

def spec_l9Lay.l0 (k : Nat) (a0_0 : Int) : Nat → Int → (List (Int)) → Option ((List (Int)))
 | 0, _, _ => none
 | n + 1, x8, xq7_1_2 => (if (decide (x8 < a0_0)) = true then (rdl xq7_1_2 x8).bind fun t21 => spec_l9Lay.l0 k a0_0 n (w64 (x8 + 1)) (xq7_1_2.set x8.toNat 0) else some xq7_1_2)

def spec_l9Lay.f (k : Nat) (a0_0 : Int) (a0_1 : List (Int × Int × Int)) (a0_2 : List Int) (a1 : List Int) (a2 : List Int) : Option (Int × (List (Int × Int × Int)) × (List Int)) := (spec_l2Own.f k a0_0 a0_1 a0_2).bind fun (t11_1, t11_2, t11_3) => (spec_l9Lay.l0 k a0_0 k 0 t11_3).bind fun xq7_1_2 => (spec_l9Lay.l1 k a1 a2 k 0 xq7_1_2).bind fun xq7_1_2r => some (t11_1, t11_2, xq7_1_2r)

theorem spec_l9Lay.ok {k : Nat}  {a0_0 : Int} {a0_1 : List (Int × Int × Int)} {a0_2 : List Int} {a1 : List Int} {a2 : List Int} {r0 : Int} {r1 : List (Int × Int × Int)} {r2 : List Int} (h : spec_l9Lay.f k a0_0 a0_1 a0_2 a1 a2 = some (r0, r1, r2)) (w : World) {va0_1 : Value} {va0_2 : Value} {va1 : Value} {va2 : Value} (hr_a0_1 : Rd w va0_1 a0_1) (hr_a0_2 : Rd w va0_2 a0_2) (hr_a1 : Rd w va1 a1) (hr_a2 : Rd w va2 a2) :
  Calls Try.prog 114 ([.agg ([.int .i64 a0_0, va0_1, va0_2].toArray), va1, va2] : List Value).toArray w (Post (fun u ns => ∃ (ur1 : Value) (Sr1 : Nat → Prop) (ur2 : Value) (Sr2 : Nat → Prop), u = .agg [.int .i64 r0, ur1, ur2].toArray ∧ SlLen ur1 r1.length ∧ SlLen ur2 r2.length ∧ ns = [R.sl Sr1 ur1 r1, R.sl Sr2 ur2 r2]) w) := by
 unfold spec_l9Lay.f at h
 have hl_va0_1 := hr_a0_1.len
 have hl_va0_2 := hr_a0_2.len
 have hl_va1 := hr_a1.len
 have hl_va2 := hr_a2.len
 refine Calls.of_tri (N := 50) Try.func114 rfl rfl rfl (Sep.nil (M := noM)) ?_
 refine Tri.seq (Tri.reg (l := [0, 1]) rfl ?_)
 refine F.mn rfl rfl rfl rfl (m_boxG rfl rfl) ?_
 rintro _ _ ⟨b3_1, rfl, rfl⟩
 refine F.mn rfl rfl rfl rfl (m_alloc ti27) ?_
 rintro _ _ ⟨b6_1, rfl, rfl⟩
 refine F.nil (Nrm.seq (Tri.seq ?_))
 obtain ⟨⟨t11_1, t11_2, t11_3⟩, h11, h⟩ := bind_some h
 refine Tri.reg (l := [0, 1, 2, 3]) rfl ?_
 refine F.qn rfl rfl rfl rfl (r_loadA ta27 ti27 rfl rfl (fun w hw => (box_cells (i := 1) rfl w hw))) ?_
 refine F.mn rfl rfl rfl rfl (m_callF (xs := _) rfl ok182 rfl rfl (fun w hw => spec_l2Own.ok h11 w ((fun _ hw => hr_a0_1.sep hw) w hw) ((fun _ hw => hr_a0_2.sep hw) w hw))) ?_
 rintro _ _ ⟨_, ⟨v11_1, S11_1, v11_2, S11_2, rfl, hl_v11_1, hl_v11_2, rfl⟩, rfl⟩
 refine F.mn rfl rfl rfl rfl (m_alloc ti27) ?_
 rintro _ _ ⟨b7_1, rfl, rfl⟩
 refine F.ef0 rfl rfl (wanted_none rfl) (d_storeG0 (i := 0) (cs2 := [.int .i64 t11_1, v11_1, v11_2]) ti27 rfl rfl rfl rfl rfl (Nat.le_of_ble_eq_true rfl) (lf_cons rfl (lf_cons (sl_leaf hl_v11_1) (lf_cons (sl_leaf hl_v11_2) lf_nil)))) ?_
 rintro _ _ ⟨rfl, rfl⟩
 refine F.nil (Nrm.seq (Tri.seq (Tri.seq (Tri.reg (l := [0]) rfl ?_))))
 refine F.qn rfl rfl rfl rfl (r_assign rfl) ?_
 refine F.nil (Nrm.seq ?_)
 obtain ⟨xq7_1_2, hE_1, h⟩ := bind_some h
 refine Tri.block ?_
 refine Tri.only [1, 2, 3, 6, 7, 8] rfl ?_
 refine Tri.pick [0, 3, 4, 1, 2] rfl rfl ?_
 refine Tri.rounds (fun n e' C' => ∃ (x8' : Int) (xq7_1_2' : List (Int)), spec_l9Lay.l0 k a0_0 n x8' xq7_1_2' = some xq7_1_2 ∧ SlLen v11_2 (xq7_1_2').length ∧ e' = [(1, va1), (2, va2), (3, .pointer (some ⟨b3_1, 0, none⟩)), (6, .pointer (some ⟨b6_1, 0, none⟩)), (7, .pointer (some ⟨b7_1, 0, none⟩)), (8, .int .i64 x8')] ∧ C' = Sep w noM [R.box b7_1 27 [.int .i64 t11_1, v11_1, v11_2], R.box b6_1 27 [.int .i64 0, .slice none 0 0, .slice none 0 0], R.box b3_1 27 [.int .i64 a0_0, va0_1, va0_2], R.sl S11_1 v11_1 (t11_2 : List (Int × Int × Int)), R.sl S11_2 v11_2 (xq7_1_2' : List (Int))]) k ?_ ?_ ?_
 ·exact ⟨0, t11_3, hE_1, hl_v11_2, rfl, rfl⟩
 ·rintro _ _ ⟨_, _, hE_1, _⟩
  rw [spec_l9Lay.l0.eq_1] at hE_1; cases hE_1
 ·rintro n_1 _ _ ⟨x8, xq7_1_2, hE_1, hl_xq7_1_2, rfl, rfl⟩ ih_1
  rw [spec_l9Lay.l0.eq_2] at hE_1
  refine Tri.seq (Tri.seq (Tri.reg (l := [0, 1, 2, 3]) rfl ?_))
  refine F.qn rfl rfl rfl rfl (r_move rfl) ?_
  refine F.qn rfl rfl rfl rfl (r_fieldAddr tf27_0 rfl) ?_
  refine F.qn rfl rfl rfl rfl (r_load ta3 rfl (fun w hw => cell_1 (box_cells (i := 2) rfl w hw) rfl)) ?_
  refine F.qn rfl rfl rfl rfl (r_lss rfl rfl) ?_
  refine F.nil (Nrm.seq (Tri.cond (b := decide (x8 < a0_0)) rfl (fun g_1 => ?_) (fun g_1 => ?_)))
  ·replace hE_1 := if_tt g_1 hE_1
   refine Tri.skip (Nrm.seq (Tri.seq (Tri.block ?_)))
   obtain ⟨t21, h21, hE_1⟩ := bind_some hE_1
   refine Tri.reg (l := [0, 1, 2, 3, 4]) rfl ?_
   refine F.qn rfl rfl rfl rfl (r_fieldAddr tf27_2 rfl) ?_
   refine F.qn rfl rfl rfl rfl (r_load ta25 rfl (fun w hw => cell_1 (box_cells (i := 0) rfl w hw) rfl)) ?_
   refine F.qn rfl rfl rfl rfl (r_move rfl) ?_
   refine F.qn rfl rfl rfl rfl (r_indexAddrS Try.underlying25 ti3 rfl hl_xq7_1_2 rfl (rdl_some h21).1 (rdl_some h21).2.1) ?_
   refine F.ef0 rfl rfl (wanted_none rfl) (d_storeE (i := 4) (x1 := 0) ti3 rfl rfl rfl (rdl_some h21) rfl) ?_
   rintro _ _ ⟨rfl, rfl⟩
   refine F.nil (Nrm.block ?_)
   refine Nrm.seq (Tri.reg (l := [0, 1, 2]) rfl ?_)
   refine F.qn rfl rfl rfl rfl (r_move rfl) ?_
   refine F.qn rfl rfl rfl rfl (r_add rfl rfl) ?_
   refine F.qn rfl rfl rfl rfl (r_assign rfl) ?_
   refine F.nil (Nrm.round ?_)
   refine Rnd.only [1, 2, 3, 6, 7, 8] rfl ?_
   refine Rnd.pick [0, 1, 2, 3, 4] rfl rfl ?_
   exact ih_1 _ _ ⟨w64 (x8 + 1), xq7_1_2.set x8.toNat 0, hE_1, (len_set hl_xq7_1_2), rfl, rfl⟩
  ·replace hE_1 := if_ff g_1 hE_1
   refine Tri.exit ?_
   refine Exi.then ?_
   refine Exi.then ?_
   refine Exi.same ?_
   cases hE_1
   refine Nrm.seq (Tri.seq (Tri.seq (Tri.reg (l := [0]) rfl ?_)))
   refine F.qn rfl rfl rfl rfl (r_assign rfl) ?_
   refine F.nil (Nrm.seq ?_)
   obtain ⟨xq7_1_2r, hE_2, h⟩ := bind_some h
   refine Tri.block ?_
   refine Tri.only [1, 2, 6, 7, 9] rfl ?_
   refine Tri.pick [0, 1, 3, 4] rfl rfl ?_
   refine Tri.rounds (fun n e' C' => ∃ (x9' : Int) (xq7_1_2r' : List (Int)), spec_l9Lay.l1 k a1 a2 n x9' xq7_1_2r' = some xq7_1_2r ∧ SlLen v11_2 (xq7_1_2r').length ∧ e' = [(1, va1), (2, va2), (6, .pointer (some ⟨b6_1, 0, none⟩)), (7, .pointer (some ⟨b7_1, 0, none⟩)), (9, .int .i64 x9')] ∧ C' = Sep w noM [R.box b7_1 27 [.int .i64 t11_1, v11_1, v11_2], R.box b6_1 27 [.int .i64 0, .slice none 0 0, .slice none 0 0], R.sl S11_1 v11_1 (t11_2 : List (Int × Int × Int)), R.sl S11_2 v11_2 (xq7_1_2r' : List (Int))]) k ?_ ?_ ?_
   ·exact ⟨0, xq7_1_2, hE_2, hl_xq7_1_2, rfl, rfl⟩
   ·rintro _ _ ⟨_, _, hE_2, _⟩
    rw [spec_l9Lay.l1.eq_1] at hE_2; cases hE_2
   ·rintro n_2 _ _ ⟨x9, xq7_1_2r, hE_2, hl_xq7_1_2r, rfl, rfl⟩ ih_2
    rw [spec_l9Lay.l1.eq_2] at hE_2
    refine Tri.seq (Tri.seq (Tri.reg (l := [0, 1, 2, 3]) rfl ?_))
    refine F.qn rfl rfl rfl rfl (r_move rfl) ?_
    refine F.qn rfl rfl rfl rfl (r_move rfl) ?_
    refine F.qn rfl rfl rfl rfl (r_len Try.underlying25 rfl hl_va2) ?_
    refine F.qn rfl rfl rfl rfl (r_lss rfl rfl) ?_
    refine F.nil (Nrm.seq (Tri.cond (b := decide (x9 < (a2.length : Int))) rfl (fun g_2 => ?_) (fun g_2 => ?_)))
    ·replace hE_2 := if_tt g_2 hE_2
     refine Tri.skip (Nrm.seq (Tri.seq (Tri.block ?_)))
     obtain ⟨t32, h32, hE_2⟩ := bind_some hE_2
     obtain ⟨t38, h38, hE_2⟩ := bind_some hE_2
     obtain ⟨t40, h40, hE_2⟩ := bind_some hE_2
     obtain ⟨t44, h44, hE_2⟩ := bind_some hE_2
     obtain ⟨hs46, hE_2⟩ := ck hE_2
     obtain ⟨t48, h48, hE_2⟩ := bind_some hE_2
     refine Tri.drawA mixedT Sep.up [(0, true), (1, true), (2, true), (3, true), (4, true), (5, true), (6, true), (7, true), (8, true), (9, true), (10, true), (11, true), (12, true), (13, true), (14, true), (15, true), (16, true), (17, true), (18, true), (19, true), (20, true)] [21] (by kernel_rfl) ?_
     refine S.qn rfl rfl rfl rfl (r_fieldAddr tf27_2 rfl) ?_
     refine S.qn rfl rfl rfl rfl (r_load ta25 rfl (fun w hw => cell_1 (box_cells (i := 0) rfl w hw) rfl)) ?_
     refine S.qn rfl rfl rfl rfl (r_move rfl) ?_
     refine S.qn rfl rfl rfl rfl (r_move rfl) ?_
     refine S.qn rfl rfl rfl rfl (r_indexAddrS Try.underlying25 ti3 rfl hl_va2 rfl (rdl_some h32).1 (rdl_some h32).2.1) ?_
     refine S.qn rfl rfl rfl rfl (r_load ta3 rfl (fun w hw => cell_0 (Rd.flat ((fun _ hw => hr_a2.sep hw) w hw) (rdl_some h32).2.2) rfl)) ?_
     refine S.qn rfl rfl rfl rfl (r_fieldAddr tf27_2 rfl) ?_
     refine S.qn rfl rfl rfl rfl (r_load ta25 rfl (fun w hw => cell_1 (box_cells (i := 0) rfl w hw) rfl)) ?_
     refine S.qn rfl rfl rfl rfl (r_move rfl) ?_
     refine S.qn rfl rfl rfl rfl (r_move rfl) ?_
     refine S.qn rfl rfl rfl rfl (r_indexAddrS Try.underlying25 ti3 rfl hl_va2 rfl (rdl_some h38).1 (rdl_some h38).2.1) ?_
     refine S.qn rfl rfl rfl rfl (r_load ta3 rfl (fun w hw => cell_0 (Rd.flat ((fun _ hw => hr_a2.sep hw) w hw) (rdl_some h38).2.2) rfl)) ?_
     refine S.qn rfl rfl rfl rfl (r_indexAddrS Try.underlying25 ti3 rfl hl_xq7_1_2r rfl (rdl_some h40).1 (rdl_some h40).2.1) ?_
     refine S.qn rfl rfl rfl rfl (r_load ta3 rfl (fun w hw => cell_0 (Rd.flat ((rd_sl (i := 3) rfl) w hw) (rdl_some h40).2.2) rfl)) ?_
     refine S.qn rfl rfl rfl rfl (r_move rfl) ?_
     refine S.qn rfl rfl rfl rfl (r_move rfl) ?_
     refine S.qn rfl rfl rfl rfl (r_indexAddrS Try.underlying25 ti3 rfl hl_va1 rfl (rdl_some h44).1 (rdl_some h44).2.1) ?_
     refine S.qn rfl rfl rfl rfl (r_load ta3 rfl (fun w hw => cell_0 (Rd.flat ((fun _ hw => hr_a1.sep hw) w hw) (rdl_some h44).2.2) rfl)) ?_
     refine S.qn rfl rfl rfl rfl (r_shl rfl rfl hs46) ?_
     refine S.qn rfl rfl rfl rfl (r_or rfl rfl) ?_
     refine S.qn rfl rfl rfl rfl (r_indexAddrS Try.underlying25 ti3 rfl hl_xq7_1_2r rfl (rdl_some h48).1 (rdl_some h48).2.1) ?_
     refine S.nil (F.ef0 rfl rfl (wanted_none rfl) (d_storeE (i := 3) (x1 := bor t40 (shl 1 t44)) ti3 rfl rfl rfl (rdl_some h48) rfl) ?_)
     rintro _ _ ⟨rfl, rfl⟩
     refine F.nil (Nrm.block ?_)
     refine Nrm.seq (Tri.reg (l := [0, 1, 2]) rfl ?_)
     refine F.qn rfl rfl rfl rfl (r_move rfl) ?_
     refine F.qn rfl rfl rfl rfl (r_add rfl rfl) ?_
     refine F.qn rfl rfl rfl rfl (r_assign rfl) ?_
     refine F.nil (Nrm.round ?_)
     refine Rnd.only [1, 2, 6, 7, 9] rfl ?_
     refine Rnd.pick [0, 1, 2, 3] rfl rfl ?_
     exact ih_2 _ _ ⟨w64 (x9 + 1), xq7_1_2r.set t32.toNat (bor t40 (shl 1 t44)), hE_2, (len_set hl_xq7_1_2r), rfl, rfl⟩
    ·replace hE_2 := if_ff g_2 hE_2
     refine Tri.exit ?_
     refine Exi.then ?_
     refine Exi.then ?_
     refine Exi.same ?_
     cases hE_2
     refine Nrm.seq (Tri.seq (Tri.reg (l := [0, 1]) rfl ?_))
     refine F.qn rfl rfl rfl rfl (r_loadA ta27 ti27 rfl rfl (fun w hw => (box_cells (i := 0) rfl w hw))) ?_
     refine F.ef0 rfl rfl (wanted_none rfl) (d_storeG0 (i := 1) (cs2 := [.int .i64 t11_1, v11_1, v11_2]) ti27 rfl rfl rfl rfl rfl (Nat.le_of_ble_eq_true rfl) (lf_cons rfl (lf_cons (sl_leaf hl_v11_1) (lf_cons (sl_leaf hl_xq7_1_2r) lf_nil)))) ?_
     rintro _ _ ⟨rfl, rfl⟩
     refine F.nil (Nrm.seq (Tri.ret ?_))
     cases h
     exact Rtn.body (.cell rfl ta27 ti27 rfl (fun _ hw => box_cells (i := 1) rfl _ hw) .nil) (fun w hw => ⟨_, _, rfl, ⟨v11_1, S11_1, v11_2, S11_2, rfl, hl_v11_1, hl_xq7_1_2r, rfl⟩, Sep.pick (is := [2, 3]) rfl rfl hw⟩)


def spec_l9All.l2 (k : Nat) (a0 : Int) (x8 : Int) : Nat → (List (List Int)) → (List (List Int)) → Int → Option ((List (List Int)) × (List (List Int)))
 | 0, _, _, _ => none
 | n + 1, x5rr, x7r, x9 => (if (decide (x9 < a0)) = true then (rdl (x5rr : List (List Int)) x8).bind fun t32 => (spec_l1Own.f k t32).bind fun t34 => if (t34 ++ ([x9] : List (Int))).length < 1099511627776 then if ((x7r : List (List Int)) ++ ([t34 ++ ([x9] : List (Int))] : List (List Int))).length < 1099511627776 then spec_l9All.l2 k a0 x8 n ((x5rr : List (List Int)).set (x8 : Int).toNat t32) ((x7r : List (List Int)) ++ ([t34 ++ ([x9] : List (Int))] : List (List Int))) (w64 (x9 + 1)) else none else none else some (x5rr, x7r))

def spec_l9All.l1 (k : Nat) (a0 : Int) : Nat → (List (List Int)) → (List (List Int)) → Int → Option ((List (List Int)))
 | 0, _, _, _ => none
 | n + 1, x5r, x7, x8 => (if (decide (x8 < (x5r.length : Int))) = true then (spec_l9All.l2 k a0 x8 k x5r x7 0).bind fun (x5rr, x7r) => spec_l9All.l1 k a0 n x5rr x7r (w64 (x8 + 1)) else some x7)

def spec_l9All.l0 (k : Nat) (a0 : Int) (a1 : Int) : Nat → (List (List Int)) → Int → Option ((List (List Int)))
 | 0, _, _ => none
 | n + 1, x5, x6 => (if (decide (x6 < a1)) = true then (spec_l9All.l1 k a0 k x5 ([] : List (List Int)) 0).bind fun x7 => spec_l9All.l0 k a0 a1 n x7 (w64 (x6 + 1)) else some x5)

def spec_l9All.f (k : Nat) (a0 : Int) (a1 : Int) : Option ((List (List Int))) := (spec_l9All.l0 k a0 a1 k ([([] : List (Int))] : List (List Int)) 0).bind fun x5 => some x5

theorem spec_l9All.ok {k : Nat}  {a0 : Int} {a1 : Int} {r0 : List (List Int)} (h : spec_l9All.f k a0 a1 = some r0) (w : World) :
  Calls Try.prog 166 ([.int .i64 a0, .int .i64 a1] : List Value).toArray w (Post (fun u ns => ∃ (Sr0 : Nat → Prop), SlLen u r0.length ∧ ns = [R.sl Sr0 u r0]) w) := by
 unfold spec_l9All.f at h
 refine Calls.of_tri (N := 42) Try.func166 rfl rfl rfl (Sep.nil (M := noM)) ?_
 refine Tri.seq (Tri.reg (l := [0]) rfl ?_)
 refine F.qn rfl rfl rfl rfl (r_assign rfl) ?_
 refine F.nil (Nrm.seq (Tri.seq (Tri.reg (l := [0, 1, 2]) rfl ?_)))
 refine F.mn rfl rfl rfl rfl (m_build0 (α := Int) Try.underlying25 ti3) ?_
 rintro v10_1 _ ⟨S10_1, hl_v10_1, rfl⟩
 refine F.efn rfl rfl rfl rfl (d_build1 (cells := [v10_1]) (x0 := (([] : List (Int)) : List Int)) (cs := [R.sl S10_1 v10_1 (([] : List (Int)) : List (Int))]) (rest := []) [0] [] Try.underlying83 ti25 rfl (sl_cells hl_v10_1) rfl (lf_cons (sl_leaf hl_v10_1) lf_nil) rfl rfl (jn_sl (S := S10_1) (v := v10_1) (l := (([] : List (Int)) : List (Int))))) ?_
 rintro v11_1 _ ⟨S11_1, hl_v11_1, rfl⟩
 refine F.qn rfl rfl rfl rfl (r_assign rfl) ?_
 refine F.nil (Nrm.seq (Tri.seq (Tri.seq (Tri.reg (l := [0]) rfl ?_))))
 refine F.qn rfl rfl rfl rfl (r_assign rfl) ?_
 refine F.nil (Nrm.seq ?_)
 obtain ⟨x5, hE_1, h⟩ := bind_some h
 refine Tri.block ?_
 refine Tri.only [0, 1, 5, 6] rfl ?_
 refine Tri.pick [0] rfl rfl ?_
 refine Tri.rounds (fun n e' C' => ∃ (x5' : List (List Int)) (x6' : Int) (w5 : Value) (T5 : Nat → Prop), spec_l9All.l0 k a0 a1 n x5' x6' = some x5 ∧ SlLen w5 (x5').length ∧ e' = [(0, .int .i64 a0), (1, .int .i64 a1), (5, w5), (6, .int .i64 x6')] ∧ C' = Sep w noM [R.sl T5 w5 (x5' : List (List Int))]) k ?_ ?_ ?_
 ·exact ⟨([([] : List (Int))] : List (List Int)), 0, v11_1, S11_1, hE_1, hl_v11_1, rfl, rfl⟩
 ·rintro _ _ ⟨_, _, _, _, hE_1, _⟩
  rw [spec_l9All.l0.eq_1] at hE_1; cases hE_1
 ·rintro n_1 _ _ ⟨x5, x6, w5, T5, hE_1, hl_w5, rfl, rfl⟩ ih_1
  rw [spec_l9All.l0.eq_2] at hE_1
  refine Tri.seq (Tri.seq (Tri.reg (l := [0, 1, 2]) rfl ?_))
  refine F.qn rfl rfl rfl rfl (r_move rfl) ?_
  refine F.qn rfl rfl rfl rfl (r_move rfl) ?_
  refine F.qn rfl rfl rfl rfl (r_lss rfl rfl) ?_
  refine F.nil (Nrm.seq (Tri.cond (b := decide (x6 < a1)) rfl (fun g_1 => ?_) (fun g_1 => ?_)))
  ·replace hE_1 := if_tt g_1 hE_1
   refine Tri.skip (Nrm.seq (Tri.seq (Tri.block ?_)))
   refine Tri.seq (Tri.reg (l := [0, 1]) rfl ?_)
   refine F.mn rfl rfl rfl rfl (m_build0 (α := List Int) Try.underlying83 ti25) ?_
   rintro v17_1 _ ⟨S17_1, hl_v17_1, rfl⟩
   refine F.qn rfl rfl rfl rfl (r_assign rfl) ?_
   refine F.nil (Nrm.seq (Tri.seq (Tri.seq (Tri.reg (l := [0]) rfl ?_))))
   refine F.qn rfl rfl rfl rfl (r_assign rfl) ?_
   refine F.nil (Nrm.seq ?_)
   obtain ⟨x7, hE_2, hE_1⟩ := bind_some hE_1
   refine Tri.block ?_
   refine Tri.only [0, 1, 5, 6, 7, 8] rfl ?_
   refine Tri.pick [0, 1] rfl rfl ?_
   refine Tri.rounds (fun n e' C' => ∃ (x5r' : List (List Int)) (x7' : List (List Int)) (x8' : Int) (w7 : Value) (T7 : Nat → Prop), spec_l9All.l1 k a0 n x5r' x7' x8' = some x7 ∧ SlLen w5 (x5r').length ∧ SlLen w7 (x7').length ∧ e' = [(0, .int .i64 a0), (1, .int .i64 a1), (5, w5), (6, .int .i64 x6), (7, w7), (8, .int .i64 x8')] ∧ C' = Sep w noM [R.sl T7 w7 (x7' : List (List Int)), R.sl T5 w5 (x5r' : List (List Int))]) k ?_ ?_ ?_
   ·exact ⟨x5, ([] : List (List Int)), 0, v17_1, S17_1, hE_2, hl_w5, hl_v17_1, rfl, rfl⟩
   ·rintro _ _ ⟨_, _, _, _, _, hE_2, _⟩
    rw [spec_l9All.l1.eq_1] at hE_2; cases hE_2
   ·rintro n_2 _ _ ⟨x5r, x7, x8, w7, T7, hE_2, hl_x5r, hl_w7, rfl, rfl⟩ ih_2
    rw [spec_l9All.l1.eq_2] at hE_2
    refine Tri.seq (Tri.seq (Tri.reg (l := [0, 1, 2, 3]) rfl ?_))
    refine F.qn rfl rfl rfl rfl (r_move rfl) ?_
    refine F.qn rfl rfl rfl rfl (r_move rfl) ?_
    refine F.qn rfl rfl rfl rfl (r_len Try.underlying83 rfl hl_x5r) ?_
    refine F.qn rfl rfl rfl rfl (r_lss rfl rfl) ?_
    refine F.nil (Nrm.seq (Tri.cond (b := decide (x8 < (x5r.length : Int))) rfl (fun g_2 => ?_) (fun g_2 => ?_)))
    ·replace hE_2 := if_tt g_2 hE_2
     refine Tri.skip (Nrm.seq (Tri.seq (Tri.block ?_)))
     refine Tri.seq (Tri.reg (l := [0]) rfl ?_)
     refine F.qn rfl rfl rfl rfl (r_assign rfl) ?_
     refine F.nil (Nrm.seq ?_)
     obtain ⟨⟨x5rr, x7r⟩, hE_3, hE_2⟩ := bind_some hE_2
     refine Tri.block ?_
     refine Tri.only [0, 1, 5, 6, 7, 8, 9] rfl ?_
     refine Tri.pick [0, 1] rfl rfl ?_
     refine Tri.rounds (fun n e' C' => ∃ (x5rr' : List (List Int)) (x7r' : List (List Int)) (x9' : Int) (w7r : Value) (T7r : Nat → Prop), spec_l9All.l2 k a0 x8 n x5rr' x7r' x9' = some (x5rr, x7r) ∧ SlLen w5 (x5rr').length ∧ SlLen w7r (x7r').length ∧ e' = [(0, .int .i64 a0), (1, .int .i64 a1), (5, w5), (6, .int .i64 x6), (7, w7r), (8, .int .i64 x8), (9, .int .i64 x9')] ∧ C' = Sep w noM [R.sl T7r w7r (x7r' : List (List Int)), R.sl T5 w5 (x5rr' : List (List Int))]) k ?_ ?_ ?_
     ·exact ⟨x5r, x7, 0, w7, T7, hE_3, hl_x5r, hl_w7, rfl, rfl⟩
     ·rintro _ _ ⟨_, _, _, _, _, hE_3, _⟩
      rw [spec_l9All.l2.eq_1] at hE_3; cases hE_3
     ·rintro n_3 _ _ ⟨x5rr, x7r, x9, w7r, T7r, hE_3, hl_x5rr, hl_w7r, rfl, rfl⟩ ih_3
      rw [spec_l9All.l2.eq_2] at hE_3
      refine Tri.seq (Tri.seq (Tri.reg (l := [0, 1, 2]) rfl ?_))
      refine F.qn rfl rfl rfl rfl (r_move rfl) ?_
      refine F.qn rfl rfl rfl rfl (r_move rfl) ?_
      refine F.qn rfl rfl rfl rfl (r_lss rfl rfl) ?_
      refine F.nil (Nrm.seq (Tri.cond (b := decide (x9 < a0)) rfl (fun g_3 => ?_) (fun g_3 => ?_)))
      ·replace hE_3 := if_tt g_3 hE_3
       refine Tri.skip (Nrm.seq (Tri.seq (Tri.block ?_)))
       obtain ⟨t32, h32, hE_3⟩ := bind_some hE_3
       obtain ⟨t34, h34, hE_3⟩ := bind_some hE_3
       obtain ⟨hs37, hE_3⟩ := ck hE_3
       obtain ⟨hs39, hE_3⟩ := ck hE_3
       refine Tri.ex (on25 [1] [0] rfl rfl (rdl_some h32).2.2) ?_
       rintro _ ⟨v32_0_1, S32_0_1, Sr32_1, hl_v32_0_1, hS32_1, rfl⟩
       refine Tri.reg (l := List.range 12) rfl ?_
       iterate 3 refine F.qn rfl rfl rfl rfl (r_move rfl) ?_
       refine F.qn rfl rfl rfl rfl (r_indexAddrS Try.underlying83 ti25 rfl hl_x5rr rfl (rdl_some h32).1 (rdl_some h32).2.1) ?_
       refine F.qn rfl rfl rfl rfl (r_load ta25 rfl (fun w hw => cell_0 (hole_cells (p := 1) rfl w hw) rfl)) ?_
       refine F.mn rfl rfl rfl rfl (m_callF (xs := _) rfl ok183 rfl rfl (fun w hw => spec_l1Own.ok h34 w ((rd_sl (i := 0) rfl) w hw))) ?_
       rintro v34_1 _ ⟨_, ⟨S34_1, hl_v34_1, rfl⟩, rfl⟩
       refine F.qn rfl rfl rfl rfl (r_move rfl) ?_
       refine F.mn rfl rfl rfl rfl (m_buildF (l := ([x9] : List (Int))) Try.underlying25 ti3 rfl rfl rfl rfl rfl) ?_
       rintro v36_1 _ ⟨S36_1, hl_v36_1, rfl⟩
       refine F.efn rfl rfl rfl rfl (d_append (i := 1) Try.underlying25 Try.underlying25 ti3 rfl (by decide) rfl rfl rfl (rd_sl (i := 0) rfl) hs37) ?_
       rintro v37_1 _ ⟨S37_1, rfl, hl_v37_1⟩
       refine F.efn rfl rfl rfl rfl (d_build1 (cells := [v37_1]) (x0 := (t34 ++ ([x9] : List (Int)) : List Int)) (cs := [R.sl S37_1 v37_1 (t34 ++ ([x9] : List (Int)) : List (Int))]) (rest := [R.sl S36_1 v36_1 (([x9] : List (Int)) : List (Int)), R.sl S32_0_1 v32_0_1 (t32 : List (Int)), R.hole Sr32_1 w5 (x5rr : List (List Int)) (x8 : Int).toNat [v32_0_1], R.sl T7r w7r (x7r : List (List Int))]) [1] [0, 2, 3, 4] Try.underlying83 ti25 rfl (sl_cells hl_v37_1) rfl (lf_cons (sl_leaf hl_v37_1) lf_nil) rfl rfl (jn_sl (S := S37_1) (v := v37_1) (l := (t34 ++ ([x9] : List (Int)) : List (Int))))) ?_
       rintro v38_1 _ ⟨S38_1, hl_v38_1, rfl⟩
       refine F.efn rfl rfl rfl rfl (d_appendN (rest := [R.sl S36_1 v36_1 (([x9] : List (Int)) : List (Int)), R.sl S32_0_1 v32_0_1 (t32 : List (Int)), R.hole Sr32_1 w5 (x5rr : List (List Int)) (x8 : Int).toNat [v32_0_1]]) 4 0 [1, 2, 3] Try.underlying83 Try.underlying83 ti25 rfl (by decide) rfl rfl rfl rfl hs39) ?_
       rintro v39_1 _ ⟨S39_1, hl_v39_1, rfl⟩
       refine F.qn rfl rfl rfl rfl (r_assign rfl) ?_
       refine F.nil (Nrm.imp (cloS1 (cs := [R.sl S32_0_1 v32_0_1 (t32 : List (Int))]) (rest := [R.sl S39_1 v39_1 ((x7r : List (List Int)) ++ ([t34 ++ ([x9] : List (Int))] : List (List Int)) : List (List Int)), R.sl S36_1 v36_1 (([x9] : List (Int)) : List (Int))]) [2, 3] [0, 1] rfl rfl (jn_sl (S := S32_0_1) (v := v32_0_1) (l := (t32 : List (Int)))) hS32_1) ?_)
       refine Nrm.block ?_
       refine Nrm.seq (Tri.reg (l := [0, 1, 2]) rfl ?_)
       refine F.qn rfl rfl rfl rfl (r_move rfl) ?_
       refine F.qn rfl rfl rfl rfl (r_add rfl rfl) ?_
       refine F.qn rfl rfl rfl rfl (r_assign rfl) ?_
       refine F.nil (Nrm.round ?_)
       refine Rnd.only [0, 1, 5, 6, 7, 8, 9] rfl ?_
       refine Rnd.pick [1, 0] rfl rfl ?_
       exact ih_3 _ _ ⟨(x5rr : List (List Int)).set (x8 : Int).toNat t32, (x7r : List (List Int)) ++ ([t34 ++ ([x9] : List (Int))] : List (List Int)), w64 (x9 + 1), v39_1, S39_1, hE_3, (len_set hl_x5rr), hl_v39_1, rfl, rfl⟩
      ·replace hE_3 := if_ff g_3 hE_3
       refine Tri.exit ?_
       refine Exi.then ?_
       refine Exi.then ?_
       refine Exi.same ?_
       cases hE_3
       refine Nrm.block ?_
       refine Nrm.seq (Tri.reg (l := [0, 1, 2]) rfl ?_)
       refine F.qn rfl rfl rfl rfl (r_move rfl) ?_
       refine F.qn rfl rfl rfl rfl (r_add rfl rfl) ?_
       refine F.qn rfl rfl rfl rfl (r_assign rfl) ?_
       refine F.nil (Nrm.round ?_)
       refine Rnd.only [0, 1, 5, 6, 7, 8] rfl ?_
       refine Rnd.pick [0, 1] rfl rfl ?_
       exact ih_2 _ _ ⟨x5rr, x7r, w64 (x8 + 1), w7r, T7r, hE_2, hl_x5rr, hl_w7r, rfl, rfl⟩
    ·replace hE_2 := if_ff g_2 hE_2
     refine Tri.exit ?_
     refine Exi.then ?_
     refine Exi.then ?_
     refine Exi.same ?_
     cases hE_2
     refine Nrm.seq (Tri.reg (l := [0, 1]) rfl ?_)
     refine F.qn rfl rfl rfl rfl (r_move rfl) ?_
     refine F.qn rfl rfl rfl rfl (r_assign rfl) ?_
     refine F.nil (Nrm.block ?_)
     refine Nrm.seq (Tri.reg (l := [0, 1, 2]) rfl ?_)
     refine F.qn rfl rfl rfl rfl (r_move rfl) ?_
     refine F.qn rfl rfl rfl rfl (r_add rfl rfl) ?_
     refine F.qn rfl rfl rfl rfl (r_assign rfl) ?_
     refine F.nil (Nrm.round ?_)
     refine Rnd.only [0, 1, 5, 6] rfl ?_
     refine Rnd.pick [0] rfl rfl ?_
     exact ih_1 _ _ ⟨x7, w64 (x6 + 1), w7, T7, hE_1, hl_w7, rfl, rfl⟩
  ·replace hE_1 := if_ff g_1 hE_1
   refine Tri.exit ?_
   refine Exi.then ?_
   refine Exi.then ?_
   refine Exi.same ?_
   cases hE_1
   refine Nrm.seq (Tri.seq (Tri.reg (l := [0, 1]) rfl ?_))
   refine F.qn rfl rfl rfl rfl (r_move rfl) ?_
   refine F.qn rfl rfl rfl rfl (r_assign rfl) ?_
   refine F.nil (Nrm.seq (Tri.ret ?_))
   cases h
   exact Rtn.body (.tmp rfl .nil) (fun w hw => ⟨_, _, rfl, ⟨T5, hl_w5, rfl⟩, Sep.pick (is := [0]) rfl rfl hw⟩)


def spec_l1Has.l0 (k : Nat) (a0 : List Int) (a1 : Int) : Nat → Int → Option ((Unit) ⊕ (Bool))
 | 0, _ => none
 | n + 1, x5 => (if (decide (x5 < (a0.length : Int))) = true then (rdl a0 x5).bind fun t14 => (if (t14 == a1) = true then some (Sum.inr true) else spec_l1Has.l0 k a0 a1 n (w64 (x5 + 1))) else some (Sum.inl ()))

def spec_l1Has.f (k : Nat) (a0 : List Int) (a1 : Int) : Option (Bool) := (spec_l1Has.l0 k a0 a1 k 0).bind fun s => Lr s some fun _ => some false

theorem spec_l1Has.ok {k : Nat}  {a0 : List Int} {a1 : Int} {r0 : Bool} (h : spec_l1Has.f k a0 a1 = some r0) (w : World) {va0 : Value} (hr_a0 : Rd w va0 a0) :
  Calls Try.prog 99 ([va0, .int .i64 a1] : List Value).toArray w (fun e w' => e = .returned (.bool r0) ∧ Ext w w') := by
 unfold spec_l1Has.f at h
 have hl_va0 := hr_a0.len
 refine Calls.of_tri (N := 18) Try.func99 rfl rfl rfl (Sep.nil (M := noM)) ?_
 refine Tri.seq (Tri.reg (l := [0]) rfl ?_)
 refine F.qn rfl rfl rfl rfl (r_assign rfl) ?_
 refine F.nil (Nrm.seq (Tri.seq (Tri.seq (Tri.reg (l := [0]) rfl ?_))))
 refine F.qn rfl rfl rfl rfl (r_assign rfl) ?_
 refine F.nil (Nrm.seq ?_)
 obtain ⟨s0, hE_1, h⟩ := bind_some h
 refine Tri.block ?_
 refine Tri.only [0, 1, 5] rfl ?_
 refine Tri.pick [] rfl rfl ?_
 refine Tri.rounds (fun n e' C' => ∃ (x5' : Int), spec_l1Has.l0 k a0 a1 n x5' = some s0 ∧ e' = [(0, va0), (1, .int .i64 a1), (5, .int .i64 x5')] ∧ C' = Sep w noM []) k ?_ ?_ ?_
 ·exact ⟨0, hE_1, rfl, rfl⟩
 ·rintro _ _ ⟨_, hE_1, _⟩
  rw [spec_l1Has.l0.eq_1] at hE_1; cases hE_1
 ·rintro n_1 _ _ ⟨x5, hE_1, rfl, rfl⟩ ih_1
  rw [spec_l1Has.l0.eq_2] at hE_1
  refine Tri.seq (Tri.seq (Tri.reg (l := [0, 1, 2, 3]) rfl ?_))
  refine F.qn rfl rfl rfl rfl (r_move rfl) ?_
  refine F.qn rfl rfl rfl rfl (r_move rfl) ?_
  refine F.qn rfl rfl rfl rfl (r_len Try.underlying25 rfl hl_va0) ?_
  refine F.qn rfl rfl rfl rfl (r_lss rfl rfl) ?_
  refine F.nil (Nrm.seq (Tri.cond (b := decide (x5 < (a0.length : Int))) rfl (fun g_1 => ?_) (fun g_1 => ?_)))
  ·replace hE_1 := if_tt g_1 hE_1
   refine Tri.skip (Nrm.seq (Tri.seq (Tri.block ?_)))
   refine Tri.seq ?_
   obtain ⟨t14, h14, hE_1⟩ := bind_some hE_1
   refine Tri.reg (l := [0, 1, 2, 3, 4, 5]) rfl ?_
   refine F.qn rfl rfl rfl rfl (r_move rfl) ?_
   refine F.qn rfl rfl rfl rfl (r_move rfl) ?_
   refine F.qn rfl rfl rfl rfl (r_indexAddrS Try.underlying25 ti3 rfl hl_va0 rfl (rdl_some h14).1 (rdl_some h14).2.1) ?_
   refine F.qn rfl rfl rfl rfl (r_load ta3 rfl (fun w hw => cell_0 (Rd.flat ((fun _ hw => hr_a0.sep hw) w hw) (rdl_some h14).2.2) rfl)) ?_
   refine F.qn rfl rfl rfl rfl (r_move rfl) ?_
   refine F.qn rfl rfl rfl rfl (r_eql rfl rfl) ?_
   refine F.nil (Nrm.seq (Tri.cond (b := t14 == a1) rfl (fun g_2 => ?_) (fun g_2 => ?_)))
   ·replace hE_1 := if_tt g_2 hE_1
    refine Tri.seq (Tri.reg (l := [0]) rfl ?_)
    refine F.qn rfl rfl rfl rfl (r_assign rfl) ?_
    refine F.nil (Nrm.seq (Tri.ret ?_))
    refine Rtn.block ?_
    refine Rtn.then ?_
    refine Rtn.then ?_
    refine Rtn.block ?_
    refine Rtn.then ?_
    cases hE_1
    replace h := Lr_inr h
    cases h
    exact Rtn.body (.tmp rfl .nil) (fun w hw => ⟨rfl, hw.ext⟩)
   ·replace hE_1 := if_ff g_2 hE_1
    refine Tri.skip (Nrm.block ?_)
    refine Nrm.seq (Tri.reg (l := [0, 1, 2]) rfl ?_)
    refine F.qn rfl rfl rfl rfl (r_move rfl) ?_
    refine F.qn rfl rfl rfl rfl (r_add rfl rfl) ?_
    refine F.qn rfl rfl rfl rfl (r_assign rfl) ?_
    refine F.nil (Nrm.round ?_)
    refine Rnd.only [0, 1, 5] rfl ?_
    refine Rnd.pick [] rfl rfl ?_
    exact ih_1 _ _ ⟨w64 (x5 + 1), hE_1, rfl, rfl⟩
  ·replace hE_1 := if_ff g_1 hE_1
   refine Tri.exit ?_
   refine Exi.then ?_
   refine Exi.then ?_
   refine Exi.same ?_
   cases hE_1
   replace h := Lr_inl h
   refine Nrm.seq (Tri.seq (Tri.reg (l := [0]) rfl ?_))
   refine F.qn rfl rfl rfl rfl (r_assign rfl) ?_
   refine F.nil (Nrm.seq (Tri.ret ?_))
   cases h
   exact Rtn.body (.tmp rfl .nil) (fun w hw => ⟨rfl, hw.ext⟩)


def spec_l2Has.f (k : Nat) (a0 : Int) (a1 : Int) : Option (Bool) := some ((band a0 a1) == a1)

theorem spec_l2Has.ok {k : Nat}  {a0 : Int} {a1 : Int} {r0 : Bool} (h : spec_l2Has.f k a0 a1 = some r0) (w : World) :
  Calls Try.prog 203 ([.int .i64 a0, .int .i64 a1] : List Value).toArray w (fun e w' => e = .returned (.bool r0) ∧ Ext w w') := by
 unfold spec_l2Has.f at h
 refine Calls.of_tri (N := 10) Try.func203 rfl rfl rfl (Sep.nil (M := noM)) ?_
 refine Tri.seq (Tri.reg (l := [0]) rfl ?_)
 refine F.qn rfl rfl rfl rfl (r_assign rfl) ?_
 refine F.nil (Nrm.seq (Tri.seq (Tri.reg (l := [0, 1, 2, 3, 4, 5]) rfl ?_)))
 refine F.qn rfl rfl rfl rfl (r_move rfl) ?_
 refine F.qn rfl rfl rfl rfl (r_move rfl) ?_
 refine F.qn rfl rfl rfl rfl (r_and rfl rfl) ?_
 refine F.qn rfl rfl rfl rfl (r_move rfl) ?_
 refine F.qn rfl rfl rfl rfl (r_eql rfl rfl) ?_
 refine F.qn rfl rfl rfl rfl (r_assign rfl) ?_
 refine F.nil (Nrm.seq (Tri.ret ?_))
 cases h
 exact Rtn.body (.tmp rfl .nil) (fun w hw => ⟨rfl, hw.ext⟩)


def spec_l1Put.l0 (k : Nat) (a0 : List Int) (a1 : Int) : Nat → Int → Option (Int)
 | 0, _ => none
 | n + 1, x5 => ((if (decide (x5 < (a0.length : Int))) = true then (rdl a0 x5).bind fun t13 => some (decide (t13 < a1)) else some false)).bind fun y17 => (if y17 = true then spec_l1Put.l0 k a0 a1 n (w64 (x5 + 1)) else some x5)

def spec_l1Put.f (k : Nat) (a0 : List Int) (a1 : Int) : Option ((List Int)) := (spec_l1Put.l0 k a0 a1 k 0).bind fun x5 => ((if (decide (x5 < (a0.length : Int))) = true then (rdl a0 x5).bind fun t27 => some (t27 == a1) else some false)).bind fun y31 => (if y31 = true then some a0 else ((slc a0 0 x5).bind fun t36 => (slc a0 x5 (a0.length : Int)).bind fun t43 => if (([] : List (Int)) ++ t36).length < 1099511627776 then if ((([] : List (Int)) ++ t36) ++ ([a1] : List (Int))).length < 1099511627776 then if (((([] : List (Int)) ++ t36) ++ ([a1] : List (Int))) ++ t43).length < 1099511627776 then some (((([] : List (Int)) ++ t36) ++ ([a1] : List (Int))) ++ t43) else none else none else none).bind fun y4 => some y4)

theorem spec_l1Put.ok {k : Nat}  {a0 : List Int} {a1 : Int} {r0 : List Int} (h : spec_l1Put.f k a0 a1 = some r0) (w : World) {va0 : Value} {Sa0 : Nat → Prop} (hl_va0 : SlLen va0 a0.length) (hw0 : Sep w (footM [R.sl Sa0 va0 a0]) [R.sl Sa0 va0 a0] w) :
  Calls Try.prog 204 ([va0, .int .i64 a1] : List Value).toArray w (PostM (footM [R.sl Sa0 va0 a0]) (fun u ns => ∃ (Sr0 : Nat → Prop), SlLen u r0.length ∧ ns = [R.sl Sr0 u r0]) w) := by
 unfold spec_l1Put.f at h
 refine Calls.of_tri (N := 45) Try.func204 rfl rfl rfl hw0 ?_
 refine Tri.seq (Tri.reg (l := [0]) rfl ?_)
 refine F.qn rfl rfl rfl rfl (r_assign rfl) ?_
 refine F.nil (Nrm.seq (Tri.seq (Tri.reg (l := [0]) rfl ?_)))
 refine F.qn rfl rfl rfl rfl (r_assign rfl) ?_
 refine F.nil (Nrm.seq (Tri.seq ?_))
 obtain ⟨x5, hE_1, h⟩ := bind_some h
 refine Tri.block ?_
 refine Tri.only [0, 1, 5] rfl ?_
 refine Tri.pick [0] rfl rfl ?_
 refine Tri.rounds (fun n e' C' => ∃ (x5' : Int), spec_l1Put.l0 k a0 a1 n x5' = some x5 ∧ e' = [(0, va0), (1, .int .i64 a1), (5, .int .i64 x5')] ∧ C' = Sep w (footM [R.sl Sa0 va0 a0]) [R.sl Sa0 va0 (a0 : List (Int))]) k ?_ ?_ ?_
 ·exact ⟨0, hE_1, rfl, rfl⟩
 ·rintro _ _ ⟨_, hE_1, _⟩
  rw [spec_l1Put.l0.eq_1] at hE_1; cases hE_1
 ·rintro n_1 _ _ ⟨x5, hE_1, rfl, rfl⟩ ih_1
  rw [spec_l1Put.l0.eq_2] at hE_1
  refine Tri.seq (Tri.seq ?_)
  obtain ⟨y17, hE_2, hE_1⟩ := bind_some hE_1
  refine Tri.cut (fun e' C' => e' = [(0, va0), (1, .int .i64 a1), (5, .int .i64 x5), (17, .bool y17)] ∧ C' = Sep w (footM [R.sl Sa0 va0 a0]) [R.sl Sa0 va0 (a0 : List (Int))]) ?_ (fun hj_1 => ?_)
  ·rintro _ _ ⟨rfl, rfl⟩
   refine Nrm.seq (Tri.cond (b := y17) rfl (fun g_1 => ?_) (fun g_1 => ?_))
   ·replace hE_1 := if_tt g_1 hE_1
    refine Tri.skip (Nrm.seq (Tri.block ?_))
    refine Tri.reg (l := [0, 1, 2]) rfl ?_
    refine F.qn rfl rfl rfl rfl (r_move rfl) ?_
    refine F.qn rfl rfl rfl rfl (r_add rfl rfl) ?_
    refine F.qn rfl rfl rfl rfl (r_assign rfl) ?_
    refine F.nil (Nrm.block ?_)
    refine Nrm.round ?_
    refine Rnd.only [0, 1, 5] rfl ?_
    refine Rnd.pick [0] rfl rfl ?_
    exact ih_1 _ _ ⟨w64 (x5 + 1), hE_1, rfl, rfl⟩
   ·replace hE_1 := if_ff g_1 hE_1
    refine Tri.exit ?_
    refine Exi.then ?_
    refine Exi.then ?_
    refine Exi.same ?_
    cases hE_1
    refine Nrm.seq (Tri.seq (Tri.seq ?_))
    obtain ⟨y31, hE_3, h⟩ := bind_some h
    refine Tri.cut (fun e' C' => e' = [(0, va0), (1, .int .i64 a1), (5, .int .i64 x5), (31, .bool y31)] ∧ C' = Sep w (footM [R.sl Sa0 va0 a0]) [R.sl Sa0 va0 (a0 : List (Int))]) ?_ (fun hj_2 => ?_)
    ·rintro _ _ ⟨rfl, rfl⟩
     refine Nrm.seq (Tri.cond (b := y31) rfl (fun g_2 => ?_) (fun g_2 => ?_))
     ·replace h := if_tt g_2 h
      refine Tri.seq (Tri.reg (l := [0, 1]) rfl ?_)
      refine F.qn rfl rfl rfl rfl (r_move rfl) ?_
      refine F.qn rfl rfl rfl rfl (r_assign rfl) ?_
      refine F.nil (Nrm.seq (Tri.ret ?_))
      refine Rtn.then ?_
      cases h
      exact Rtn.body (.tmp rfl .nil) (fun w hw => ⟨_, _, rfl, ⟨Sa0, hl_va0, rfl⟩, Sep.pick (is := [0]) rfl rfl hw⟩)
     ·replace h := if_ff g_2 h
      refine Tri.skip (Nrm.seq (Tri.seq ?_))
      obtain ⟨y4, hE_4, h⟩ := bind_some h
      refine Tri.cut (fun e' C' => ∃ (v4_1 : Value) (S4_1 : Nat → Prop), SlLen v4_1 (y4).length ∧ e' = [(4, v4_1)] ∧ C' = Sep w (footM [R.sl Sa0 va0 a0]) [R.sl S4_1 v4_1 (y4 : List (Int))]) ?_ (fun hj_3 => ?_)
      ·rintro _ _ ⟨v4_1, S4_1, hl_v4_1, rfl, rfl⟩
       refine Nrm.seq (Tri.ret ?_)
       cases h
       exact Rtn.body (.tmp rfl .nil) (fun w hw => ⟨_, _, rfl, ⟨S4_1, hl_v4_1, rfl⟩, Sep.pick (is := [0]) rfl rfl hw⟩)
      ·obtain ⟨t36, h36, hE_4⟩ := bind_some hE_4
       obtain ⟨t43, h43, hE_4⟩ := bind_some hE_4
       obtain ⟨hs37, hE_4⟩ := ck hE_4
       obtain ⟨hs40, hE_4⟩ := ck hE_4
       obtain ⟨hs44, hE_4⟩ := ck hE_4
       refine Tri.drawT mixedT Sep.up [1, 2, 3, 5, 8, 9, 10, 0, 4, 6, 7] [11, 12] (.q 1 (.q 2 (.q 3 (.q 5 (.q 8 (.q 9 (.q 10 (.alt 0 (.alt 4 (.alt 6 (.alt 7 .nil .stop) .stop) (.alt 6 (.alt 4 (.alt 7 .nil .stop) .stop) .stop)) (.alt 6 (.alt 0 (.alt 4 (.alt 7 .nil .stop) .stop) .stop) .stop))))))))) (by kernel_rfl) ?_
       refine T.q rfl rfl rfl (wanted_none rfl) (r_move rfl) ?_
       refine T.q rfl rfl rfl (wanted_none rfl) (r_move rfl) ?_
       refine T.q rfl rfl rfl (wanted_none rfl) (r_sliceH Try.underlying25 ti3 rfl (rd_sl (i := 0) rfl) rfl h36) ?_
       iterate 3 refine T.q rfl rfl rfl (wanted_none rfl) (r_move rfl) ?_
       refine T.q rfl rfl rfl (wanted_none rfl) (r_sliceL Try.underlying25 ti3 rfl (rd_sl (i := 0) rfl) rfl h43) ?_
       refine T.ef rfl rfl rfl (wanted_none rfl) (Makes.does (m_build0 (α := Int) Try.underlying25 ti3)) (by rintro v33_2 _ ⟨S33_2, hl_v33_2, rfl⟩; exact upd rfl [1] rfl rfl) ?_ ?_
       ·rintro v33_2 _ ⟨S33_2, hl_v33_2, rfl⟩
        refine T.ef rfl rfl rfl (wanted_none rfl) (d_append (i := 0) Try.underlying25 Try.underlying25 ti3 rfl (by decide) rfl rfl rfl (fun w hw => rd_slc ((rd_sl (i := 1) rfl) w hw) h36) hs37) (by rintro v37_2 _ ⟨S37_2, rfl, hl_v37_2⟩; exact upd rfl [1] rfl rfl) ?_ ?_
        ·rintro v37_2 _ ⟨S37_2, rfl, hl_v37_2⟩
         refine T.ef rfl rfl rfl (wanted_none rfl) (Makes.does (m_buildF (l := ([a1] : List (Int))) Try.underlying25 ti3 rfl rfl rfl rfl rfl)) (by rintro v39_2 _ ⟨S39_2, hl_v39_2, rfl⟩; exact upd rfl [2] rfl rfl) ?_ ?_
         ·rintro v39_2 _ ⟨S39_2, hl_v39_2, rfl⟩
          refine T.ef rfl rfl rfl (wanted_none rfl) (d_append (i := 1) Try.underlying25 Try.underlying25 ti3 rfl (by decide) rfl rfl rfl (rd_sl (i := 0) rfl) hs40) (by rintro v40_2 _ ⟨S40_2, rfl, hl_v40_2⟩; exact upd rfl [2] rfl rfl) ?_ ?_
          ·rintro v40_2 _ ⟨S40_2, rfl, hl_v40_2⟩
           refine T.nil ?_
           refine F.efn rfl rfl rfl rfl (d_append (i := 1) Try.underlying25 Try.underlying25 ti3 rfl (by decide) rfl rfl rfl (fun w hw => rd_slc ((rd_sl (i := 2) rfl) w hw) h43) hs44) ?_
           rintro v44_2 _ ⟨S44_2, rfl, hl_v44_2⟩
           refine F.qn rfl rfl rfl rfl (r_assign rfl) ?_
           refine F.nil ?_
           cases hE_4
           refine Nrm.only [4] rfl ?_
           refine Nrm.pick [1] rfl rfl ?_
           exact hj_3 _ _ ⟨v44_2, S44_2, hl_v44_2, rfl, rfl⟩
          exact T.stop
         exact T.stop
        ·refine T.ef rfl rfl rfl (wanted_none rfl) (Makes.does (m_buildF (l := ([a1] : List (Int))) Try.underlying25 ti3 rfl rfl rfl rfl rfl)) (by rintro v39_3 _ ⟨S39_3, hl_v39_3, rfl⟩; exact upd rfl [2] rfl rfl) ?_ ?_
         ·rintro v39_3 _ ⟨S39_3, hl_v39_3, rfl⟩
          refine T.ef rfl rfl rfl (wanted_none rfl) (d_append (i := 1) Try.underlying25 Try.underlying25 ti3 rfl (by decide) rfl rfl rfl (fun w hw => rd_slc ((rd_sl (i := 2) rfl) w hw) h36) hs37) (by rintro v37_3 _ ⟨S37_3, rfl, hl_v37_3⟩; exact upd rfl [2] rfl rfl) ?_ ?_
          ·rintro v37_3 _ ⟨S37_3, rfl, hl_v37_3⟩
           refine T.ef rfl rfl rfl (wanted_none rfl) (d_append (i := 1) Try.underlying25 Try.underlying25 ti3 rfl (by decide) rfl rfl rfl (rd_sl (i := 0) rfl) hs40) (by rintro v40_3 _ ⟨S40_3, rfl, hl_v40_3⟩; exact upd rfl [2] rfl rfl) ?_ ?_
           ·rintro v40_3 _ ⟨S40_3, rfl, hl_v40_3⟩
            refine T.nil ?_
            refine F.efn rfl rfl rfl rfl (d_append (i := 1) Try.underlying25 Try.underlying25 ti3 rfl (by decide) rfl rfl rfl (fun w hw => rd_slc ((rd_sl (i := 2) rfl) w hw) h43) hs44) ?_
            rintro v44_3 _ ⟨S44_3, rfl, hl_v44_3⟩
            refine F.qn rfl rfl rfl rfl (r_assign rfl) ?_
            refine F.nil ?_
            cases hE_4
            refine Nrm.only [4] rfl ?_
            refine Nrm.pick [1] rfl rfl ?_
            exact hj_3 _ _ ⟨v44_3, S44_3, hl_v44_3, rfl, rfl⟩
           exact T.stop
          exact T.stop
         exact T.stop
       ·refine T.ef rfl rfl rfl (wanted_none rfl) (Makes.does (m_buildF (l := ([a1] : List (Int))) Try.underlying25 ti3 rfl rfl rfl rfl rfl)) (by rintro v39_4 _ ⟨S39_4, hl_v39_4, rfl⟩; exact upd rfl [1] rfl rfl) ?_ ?_
        ·rintro v39_4 _ ⟨S39_4, hl_v39_4, rfl⟩
         refine T.ef rfl rfl rfl (wanted_none rfl) (Makes.does (m_build0 (α := Int) Try.underlying25 ti3)) (by rintro v33_3 _ ⟨S33_3, hl_v33_3, rfl⟩; exact upd rfl [2] rfl rfl) ?_ ?_
         ·rintro v33_3 _ ⟨S33_3, hl_v33_3, rfl⟩
          refine T.ef rfl rfl rfl (wanted_none rfl) (d_append (i := 0) Try.underlying25 Try.underlying25 ti3 rfl (by decide) rfl rfl rfl (fun w hw => rd_slc ((rd_sl (i := 2) rfl) w hw) h36) hs37) (by rintro v37_4 _ ⟨S37_4, rfl, hl_v37_4⟩; exact upd rfl [2] rfl rfl) ?_ ?_
          ·rintro v37_4 _ ⟨S37_4, rfl, hl_v37_4⟩
           refine T.ef rfl rfl rfl (wanted_none rfl) (d_append (i := 0) Try.underlying25 Try.underlying25 ti3 rfl (by decide) rfl rfl rfl (rd_sl (i := 1) rfl) hs40) (by rintro v40_4 _ ⟨S40_4, rfl, hl_v40_4⟩; exact upd rfl [2] rfl rfl) ?_ ?_
           ·rintro v40_4 _ ⟨S40_4, rfl, hl_v40_4⟩
            refine T.nil ?_
            refine F.efn rfl rfl rfl rfl (d_append (i := 0) Try.underlying25 Try.underlying25 ti3 rfl (by decide) rfl rfl rfl (fun w hw => rd_slc ((rd_sl (i := 2) rfl) w hw) h43) hs44) ?_
            rintro v44_4 _ ⟨S44_4, rfl, hl_v44_4⟩
            refine F.qn rfl rfl rfl rfl (r_assign rfl) ?_
            refine F.nil ?_
            cases hE_4
            refine Nrm.only [4] rfl ?_
            refine Nrm.pick [0] rfl rfl ?_
            exact hj_3 _ _ ⟨v44_4, S44_4, hl_v44_4, rfl, rfl⟩
           exact T.stop
          exact T.stop
         exact T.stop
        exact T.stop
    ·rcases Bool.eq_false_or_eq_true (decide (x5 < (a0.length : Int))) with g24 | g24
     ·replace hE_3 := if_tt g24 hE_3
      obtain ⟨t27, h27, hE_3⟩ := bind_some hE_3
      refine Tri.reg (l := List.range 12) rfl ?_
      refine F.qn rfl rfl rfl rfl (r_move rfl) ?_
      refine F.qn rfl rfl rfl rfl (r_move rfl) ?_
      refine F.qn rfl rfl rfl rfl (r_len Try.underlying25 rfl hl_va0) ?_
      refine F.qn rfl rfl rfl rfl (r_lss rfl rfl) ?_
      refine F.qn rfl rfl rfl rfl (r_move rfl) ?_
      refine F.qg rfl rfl rfl rfl rfl rfl g24 (r_move rfl) ?_
      refine F.qg rfl rfl rfl rfl rfl rfl g24 (r_move rfl) ?_
      refine F.qg rfl rfl rfl rfl rfl rfl g24 (r_indexAddrS Try.underlying25 ti3 rfl hl_va0 rfl (rdl_some h27).1 (rdl_some h27).2.1) ?_
      refine F.qg rfl rfl rfl rfl rfl rfl g24 (r_load ta3 rfl (fun w hw => cell_0 (Rd.flat ((rd_sl (i := 0) rfl) w hw) (rdl_some h27).2.2) rfl)) ?_
      refine F.qg rfl rfl rfl rfl rfl rfl g24 (r_move rfl) ?_
      refine F.qg rfl rfl rfl rfl rfl rfl g24 (r_eql rfl rfl) ?_
      refine F.qn rfl rfl rfl rfl (r_pick rfl rfl g24) ?_
      refine F.nil ?_
      cases hE_3
      refine Nrm.only [0, 1, 5, 31] rfl ?_
      refine Nrm.pick [0] rfl rfl ?_
      exact hj_2 _ _ ⟨rfl, rfl⟩
     ·replace hE_3 := if_ff g24 hE_3
      refine Tri.reg (l := List.range 12) rfl ?_
      refine F.qn rfl rfl rfl rfl (r_move rfl) ?_
      refine F.qn rfl rfl rfl rfl (r_move rfl) ?_
      refine F.qn rfl rfl rfl rfl (r_len Try.underlying25 rfl hl_va0) ?_
      refine F.qn rfl rfl rfl rfl (r_lss rfl rfl) ?_
      refine F.qn rfl rfl rfl rfl (r_move rfl) ?_
      iterate 6 refine F.sk rfl rfl rfl (wf rfl rfl rfl g24) ?_
      refine F.qn rfl rfl rfl rfl (r_pickf rfl rfl g24) ?_
      refine F.nil ?_
      cases hE_3
      refine Nrm.only [0, 1, 5, 31] rfl ?_
      refine Nrm.pick [0] rfl rfl ?_
      exact hj_2 _ _ ⟨rfl, rfl⟩
  ·rcases Bool.eq_false_or_eq_true (decide (x5 < (a0.length : Int))) with g10 | g10
   ·replace hE_2 := if_tt g10 hE_2
    obtain ⟨t13, h13, hE_2⟩ := bind_some hE_2
    refine Tri.reg (l := List.range 12) rfl ?_
    refine F.qn rfl rfl rfl rfl (r_move rfl) ?_
    refine F.qn rfl rfl rfl rfl (r_move rfl) ?_
    refine F.qn rfl rfl rfl rfl (r_len Try.underlying25 rfl hl_va0) ?_
    refine F.qn rfl rfl rfl rfl (r_lss rfl rfl) ?_
    refine F.qn rfl rfl rfl rfl (r_move rfl) ?_
    refine F.qg rfl rfl rfl rfl rfl rfl g10 (r_move rfl) ?_
    refine F.qg rfl rfl rfl rfl rfl rfl g10 (r_move rfl) ?_
    refine F.qg rfl rfl rfl rfl rfl rfl g10 (r_indexAddrS Try.underlying25 ti3 rfl hl_va0 rfl (rdl_some h13).1 (rdl_some h13).2.1) ?_
    refine F.qg rfl rfl rfl rfl rfl rfl g10 (r_load ta3 rfl (fun w hw => cell_0 (Rd.flat ((rd_sl (i := 0) rfl) w hw) (rdl_some h13).2.2) rfl)) ?_
    refine F.qg rfl rfl rfl rfl rfl rfl g10 (r_move rfl) ?_
    refine F.qg rfl rfl rfl rfl rfl rfl g10 (r_lss rfl rfl) ?_
    refine F.qn rfl rfl rfl rfl (r_pick rfl rfl g10) ?_
    refine F.nil ?_
    cases hE_2
    refine Nrm.only [0, 1, 5, 17] rfl ?_
    refine Nrm.pick [0] rfl rfl ?_
    exact hj_1 _ _ ⟨rfl, rfl⟩
   ·replace hE_2 := if_ff g10 hE_2
    refine Tri.reg (l := List.range 12) rfl ?_
    refine F.qn rfl rfl rfl rfl (r_move rfl) ?_
    refine F.qn rfl rfl rfl rfl (r_move rfl) ?_
    refine F.qn rfl rfl rfl rfl (r_len Try.underlying25 rfl hl_va0) ?_
    refine F.qn rfl rfl rfl rfl (r_lss rfl rfl) ?_
    refine F.qn rfl rfl rfl rfl (r_move rfl) ?_
    iterate 6 refine F.sk rfl rfl rfl (wf rfl rfl rfl g10) ?_
    refine F.qn rfl rfl rfl rfl (r_pickf rfl rfl g10) ?_
    refine F.nil ?_
    cases hE_2
    refine Nrm.only [0, 1, 5, 17] rfl ?_
    refine Nrm.pick [0] rfl rfl ?_
    exact hj_1 _ _ ⟨rfl, rfl⟩


def spec_l2Reach.l1 (k : Nat) (a0_1 : List (Int × Int × Int)) (a2 : Int) (x9 : Int) : Nat → (List (Int)) → (List (Int)) → Int → Option ((List (Int)) × (List (Int)))
 | 0, _, _, _ => none
 | n + 1, x7r, x8r, x10 => (if (decide (x10 < (a0_1.length : Int))) = true then ((rdl a0_1 x10).bind fun t33 => ((spec_l2Has.f k a2 t33.2.2).bind fun t38 => (if (!t38) = true then some true else (rdl x8r x9).bind fun t45 => (if (t33.1 != t45) = true then (rdl x8r x9).bind fun t53 => some (t33.2.1 != t53) else some false))).bind fun y57 => (if y57 = true then some (x7r, x8r) else (rdl x8r x9).bind fun t65 => (spec_l1Has.f k x7r (w64 ((w64 (t33.1 + t33.2.1)) - t65))).bind fun t70 => ((if (!t70) = true then (spec_l1Put.f k x7r (w64 ((w64 (t33.1 + t33.2.1)) - t65))).bind fun t74 => if (x8r ++ ([w64 ((w64 (t33.1 + t33.2.1)) - t65)] : List (Int))).length < 1099511627776 then some (t74, x8r ++ ([w64 ((w64 (t33.1 + t33.2.1)) - t65)] : List (Int))) else none else some (x7r, x8r))).bind fun (y7, y8) => some (y7, y8))).bind fun (y7, y8) => spec_l2Reach.l1 k a0_1 a2 x9 n y7 y8 (w64 (x10 + 1)) else some (x7r, x8r))

def spec_l2Reach.l0 (k : Nat) (a0_1 : List (Int × Int × Int)) (a2 : Int) : Nat → (List (Int)) → (List (Int)) → Int → Option ((List (Int)))
 | 0, _, _, _ => none
 | n + 1, x7, x8, x9 => (if (decide (x9 < (x8.length : Int))) = true then (spec_l2Reach.l1 k a0_1 a2 x9 k x7 x8 0).bind fun (x7r, x8r) => spec_l2Reach.l0 k a0_1 a2 n x7r x8r (w64 (x9 + 1)) else some x7)

def spec_l2Reach.f (k : Nat) (a0_0 : Int) (a0_1 : List (Int × Int × Int)) (a0_2 : List Int) (a1 : Int) (a2 : Int) : Option ((List Int)) := (spec_l2Reach.l0 k a0_1 a2 k ([a1] : List (Int)) ([a1] : List (Int)) 0).bind fun x7 => some x7

theorem spec_l2Reach.ok {k : Nat}  {a0_0 : Int} {a0_1 : List (Int × Int × Int)} {a0_2 : List Int} {a1 : Int} {a2 : Int} {r0 : List Int} (h : spec_l2Reach.f k a0_0 a0_1 a0_2 a1 a2 = some r0) (w : World) {va0_1 : Value} {va0_2 : Value} (hr_a0_1 : Rd w va0_1 a0_1) (hr_a0_2 : Rd w va0_2 a0_2) :
  Calls Try.prog 161 ([.agg ([.int .i64 a0_0, va0_1, va0_2].toArray), .int .i64 a1, .int .i64 a2] : List Value).toArray w (Post (fun u ns => ∃ (Sr0 : Nat → Prop), SlLen u r0.length ∧ ns = [R.sl Sr0 u r0]) w) := by
 unfold spec_l2Reach.f at h
 have hl_va0_1 := hr_a0_1.len
 have hl_va0_2 := hr_a0_2.len
 refine Calls.of_tri (N := 80) Try.func161 rfl rfl rfl (Sep.nil (M := noM)) ?_
 refine Tri.seq (Tri.reg (l := [0, 1]) rfl ?_)
 refine F.mn rfl rfl rfl rfl (m_boxG rfl rfl) ?_
 rintro _ _ ⟨b3_1, rfl, rfl⟩
 refine F.qn rfl rfl rfl rfl (r_assign rfl) ?_
 refine F.nil (Nrm.seq (Tri.seq (Tri.reg (l := [0, 1, 2, 3, 4, 5]) rfl ?_)))
 refine F.qn rfl rfl rfl rfl (r_move rfl) ?_
 refine F.mn rfl rfl rfl rfl (m_buildF (l := ([a1] : List (Int))) Try.underlying25 ti3 rfl rfl rfl rfl rfl) ?_
 rintro v14_1 _ ⟨S14_1, hl_v14_1, rfl⟩
 refine F.qn rfl rfl rfl rfl (r_move rfl) ?_
 refine F.mn rfl rfl rfl rfl (m_buildF (l := ([a1] : List (Int))) Try.underlying25 ti3 rfl rfl rfl rfl rfl) ?_
 rintro v16_1 _ ⟨S16_1, hl_v16_1, rfl⟩
 refine F.qn rfl rfl rfl rfl (r_assign rfl) ?_
 refine F.qn rfl rfl rfl rfl (r_assign rfl) ?_
 refine F.nil (Nrm.seq (Tri.seq (Tri.seq (Tri.reg (l := [0]) rfl ?_))))
 refine F.qn rfl rfl rfl rfl (r_assign rfl) ?_
 refine F.nil (Nrm.seq ?_)
 obtain ⟨x7, hE_1, h⟩ := bind_some h
 refine Tri.block ?_
 refine Tri.only [2, 3, 7, 8, 9] rfl ?_
 refine Tri.pick [2, 0, 1] rfl rfl ?_
 refine Tri.rounds (fun n e' C' => ∃ (x7' : List (Int)) (x8' : List (Int)) (x9' : Int) (w7 : Value) (T7 : Nat → Prop) (w8 : Value) (T8 : Nat → Prop), spec_l2Reach.l0 k a0_1 a2 n x7' x8' x9' = some x7 ∧ SlLen w7 (x7').length ∧ SlLen w8 (x8').length ∧ e' = [(2, .int .i64 a2), (3, .pointer (some ⟨b3_1, 0, none⟩)), (7, w7), (8, w8), (9, .int .i64 x9')] ∧ C' = Sep w noM [R.box b3_1 27 [.int .i64 a0_0, va0_1, va0_2], R.sl T8 w8 (x8' : List (Int)), R.sl T7 w7 (x7' : List (Int))]) k ?_ ?_ ?_
 ·exact ⟨([a1] : List (Int)), ([a1] : List (Int)), 0, v14_1, S14_1, v16_1, S16_1, hE_1, hl_v14_1, hl_v16_1, rfl, rfl⟩
 ·rintro _ _ ⟨_, _, _, _, _, _, _, hE_1, _⟩
  rw [spec_l2Reach.l0.eq_1] at hE_1; cases hE_1
 ·rintro n_1 _ _ ⟨x7, x8, x9, w7, T7, w8, T8, hE_1, hl_w7, hl_w8, rfl, rfl⟩ ih_1
  rw [spec_l2Reach.l0.eq_2] at hE_1
  refine Tri.seq (Tri.seq (Tri.reg (l := [0, 1, 2, 3]) rfl ?_))
  refine F.qn rfl rfl rfl rfl (r_move rfl) ?_
  refine F.qn rfl rfl rfl rfl (r_move rfl) ?_
  refine F.qn rfl rfl rfl rfl (r_len Try.underlying25 rfl hl_w8) ?_
  refine F.qn rfl rfl rfl rfl (r_lss rfl rfl) ?_
  refine F.nil (Nrm.seq (Tri.cond (b := decide (x9 < (x8.length : Int))) rfl (fun g_1 => ?_) (fun g_1 => ?_)))
  ·replace hE_1 := if_tt g_1 hE_1
   refine Tri.skip (Nrm.seq (Tri.seq (Tri.block ?_)))
   refine Tri.seq (Tri.reg (l := [0]) rfl ?_)
   refine F.qn rfl rfl rfl rfl (r_assign rfl) ?_
   refine F.nil (Nrm.seq ?_)
   obtain ⟨⟨x7r, x8r⟩, hE_2, hE_1⟩ := bind_some hE_1
   refine Tri.block ?_
   refine Tri.only [2, 3, 7, 8, 9, 10] rfl ?_
   refine Tri.pick [0, 1, 2] rfl rfl ?_
   refine Tri.rounds (fun n e' C' => ∃ (x7r' : List (Int)) (x8r' : List (Int)) (x10' : Int) (w7r : Value) (T7r : Nat → Prop) (w8r : Value) (T8r : Nat → Prop), spec_l2Reach.l1 k a0_1 a2 x9 n x7r' x8r' x10' = some (x7r, x8r) ∧ SlLen w7r (x7r').length ∧ SlLen w8r (x8r').length ∧ e' = [(2, .int .i64 a2), (3, .pointer (some ⟨b3_1, 0, none⟩)), (7, w7r), (8, w8r), (9, .int .i64 x9), (10, .int .i64 x10')] ∧ C' = Sep w noM [R.box b3_1 27 [.int .i64 a0_0, va0_1, va0_2], R.sl T8r w8r (x8r' : List (Int)), R.sl T7r w7r (x7r' : List (Int))]) k ?_ ?_ ?_
   ·exact ⟨x7, x8, 0, w7, T7, w8, T8, hE_2, hl_w7, hl_w8, rfl, rfl⟩
   ·rintro _ _ ⟨_, _, _, _, _, _, _, hE_2, _⟩
    rw [spec_l2Reach.l1.eq_1] at hE_2; cases hE_2
   ·rintro n_2 _ _ ⟨x7r, x8r, x10, w7r, T7r, w8r, T8r, hE_2, hl_w7r, hl_w8r, rfl, rfl⟩ ih_2
    rw [spec_l2Reach.l1.eq_2] at hE_2
    refine Tri.seq (Tri.seq (Tri.reg (l := [0, 1, 2, 3, 4]) rfl ?_))
    refine F.qn rfl rfl rfl rfl (r_move rfl) ?_
    refine F.qn rfl rfl rfl rfl (r_fieldAddr tf27_1 rfl) ?_
    refine F.qn rfl rfl rfl rfl (r_load ta24 rfl (fun w hw => cell_1 (box_cells (i := 0) rfl w hw) rfl)) ?_
    refine F.qn rfl rfl rfl rfl (r_len Try.underlying24 rfl hl_va0_1) ?_
    refine F.qn rfl rfl rfl rfl (r_lss rfl rfl) ?_
    refine F.nil (Nrm.seq (Tri.cond (b := decide (x10 < (a0_1.length : Int))) rfl (fun g_2 => ?_) (fun g_2 => ?_)))
    ·replace hE_2 := if_tt g_2 hE_2
     refine Tri.skip (Nrm.seq (Tri.seq ?_))
     obtain ⟨⟨y7, y8⟩, hE_3, hE_2⟩ := bind_some hE_2
     refine Tri.cut (fun e' C' => ∃ (v7_1 : Value) (S7_1 : Nat → Prop) (v8_1 : Value) (S8_1 : Nat → Prop), SlLen v7_1 (y7).length ∧ SlLen v8_1 (y8).length ∧ e' = [(2, .int .i64 a2), (3, .pointer (some ⟨b3_1, 0, none⟩)), (7, v7_1), (8, v8_1), (9, .int .i64 x9), (10, .int .i64 x10)] ∧ C' = Sep w noM [R.box b3_1 27 [.int .i64 a0_0, va0_1, va0_2], R.sl S7_1 v7_1 (y7 : List (Int)), R.sl S8_1 v8_1 (y8 : List (Int))]) ?_ (fun hj_1 => ?_)
     ·rintro _ _ ⟨v7_1, S7_1, v8_1, S8_1, hl_v7_1, hl_v8_1, rfl, rfl⟩
      refine Nrm.seq (Tri.reg (l := [0, 1, 2]) rfl ?_)
      refine F.qn rfl rfl rfl rfl (r_move rfl) ?_
      refine F.qn rfl rfl rfl rfl (r_add rfl rfl) ?_
      refine F.qn rfl rfl rfl rfl (r_assign rfl) ?_
      refine F.nil (Nrm.round ?_)
      refine Rnd.only [2, 3, 7, 8, 9, 10] rfl ?_
      refine Rnd.pick [0, 2, 1] rfl rfl ?_
      exact ih_2 _ _ ⟨y7, y8, w64 (x10 + 1), v7_1, S7_1, v8_1, S8_1, hE_2, hl_v7_1, hl_v8_1, rfl, rfl⟩
     ·refine Tri.block ?_
      refine Tri.seq ?_
      obtain ⟨t33, h33, hE_3⟩ := bind_some hE_3
      refine Tri.reg (l := [0, 1, 2, 3, 4, 5, 6]) rfl ?_
      refine F.qn rfl rfl rfl rfl (r_fieldAddr tf27_1 rfl) ?_
      refine F.qn rfl rfl rfl rfl (r_load ta24 rfl (fun w hw => cell_1 (box_cells (i := 0) rfl w hw) rfl)) ?_
      refine F.qn rfl rfl rfl rfl (r_move rfl) ?_
      refine F.qn rfl rfl rfl rfl (r_indexAddrS Try.underlying24 ti121 rfl hl_va0_1 rfl (rdl_some h33).1 (rdl_some h33).2.1) ?_
      refine F.qn rfl rfl rfl rfl (r_loadA ta121 ti121 rfl rfl (fun w hw => (Rd.flat ((fun _ hw => hr_a0_1.sep hw) w hw) (rdl_some h33).2.2))) ?_
      refine F.mn rfl rfl rfl rfl (m_alloc ti121) ?_
      rintro _ _ ⟨b11_1, rfl, rfl⟩
      refine F.ef0 rfl rfl (wanted_none rfl) (d_storeG0 (i := 0) (cs2 := [.int .i64 t33.1, .int .i64 t33.2.1, .int .i64 t33.2.2]) ti121 rfl rfl rfl rfl rfl (Nat.le_of_ble_eq_true rfl) (lf_cons rfl (lf_cons rfl (lf_cons rfl lf_nil)))) ?_
      rintro _ _ ⟨rfl, rfl⟩
      refine F.nil (Nrm.seq (Tri.seq (Tri.seq ?_)))
      obtain ⟨y57, hE_4, hE_3⟩ := bind_some hE_3
      refine Tri.cut (fun e' C' => e' = [(2, .int .i64 a2), (3, .pointer (some ⟨b3_1, 0, none⟩)), (7, w7r), (8, w8r), (9, .int .i64 x9), (10, .int .i64 x10), (11, .pointer (some ⟨b11_1, 0, none⟩)), (57, .bool y57)] ∧ C' = Sep w noM [R.box b11_1 121 [.int .i64 t33.1, .int .i64 t33.2.1, .int .i64 t33.2.2], R.box b3_1 27 [.int .i64 a0_0, va0_1, va0_2], R.sl T7r w7r (x7r : List (Int)), R.sl T8r w8r (x8r : List (Int))]) ?_ (fun hj_2 => ?_)
      ·rintro _ _ ⟨rfl, rfl⟩
       refine Nrm.seq (Tri.cond (b := y57) rfl (fun g_3 => ?_) (fun g_3 => ?_))
       ·replace hE_3 := if_tt g_3 hE_3
        refine Tri.exit ?_
        refine Exi.then ?_
        refine Exi.same ?_
        cases hE_3
        refine Nrm.only [2, 3, 7, 8, 9, 10] rfl ?_
        refine Nrm.pick [1, 2, 3] rfl rfl ?_
        exact hj_1 _ _ ⟨w7r, T7r, w8r, T8r, hl_w7r, hl_w8r, rfl, rfl⟩
       ·replace hE_3 := if_ff g_3 hE_3
        refine Tri.skip (Nrm.seq (Tri.seq ?_))
        obtain ⟨t65, h65, hE_3⟩ := bind_some hE_3
        refine Tri.drawA mixedT Sep.up [(0, true), (1, true), (2, true), (3, true), (4, true), (5, true), (6, true), (7, true), (8, true), (9, true), (10, true)] [] (by kernel_rfl) ?_
        refine S.qn rfl rfl rfl rfl (r_indexAddrA Try.underlying121 ti3 rfl rfl (by decide) (by decide)) ?_
        refine S.qn rfl rfl rfl rfl (r_load ta3 rfl (fun w hw => cell_1 (box_cells (i := 0) rfl w hw) rfl)) ?_
        refine S.qn rfl rfl rfl rfl (r_indexAddrA Try.underlying121 ti3 rfl rfl (by decide) (by decide)) ?_
        refine S.qn rfl rfl rfl rfl (r_load ta3 rfl (fun w hw => cell_1 (box_cells (i := 0) rfl w hw) rfl)) ?_
        refine S.qn rfl rfl rfl rfl (r_add rfl rfl) ?_
        refine S.qn rfl rfl rfl rfl (r_move rfl) ?_
        refine S.qn rfl rfl rfl rfl (r_move rfl) ?_
        refine S.qn rfl rfl rfl rfl (r_indexAddrS Try.underlying25 ti3 rfl hl_w8r rfl (rdl_some h65).1 (rdl_some h65).2.1) ?_
        refine S.qn rfl rfl rfl rfl (r_load ta3 rfl (fun w hw => cell_0 (Rd.flat ((rd_sl (i := 3) rfl) w hw) (rdl_some h65).2.2) rfl)) ?_
        refine S.qn rfl rfl rfl rfl (r_sub rfl rfl) ?_
        refine S.qn rfl rfl rfl rfl (r_assign rfl) ?_
        refine S.nil (F.nil (Nrm.seq (Tri.seq ?_)))
        obtain ⟨t70, h70, hE_3⟩ := bind_some hE_3
        refine Tri.reg (l := [0, 1, 2, 3]) rfl ?_
        refine F.qn rfl rfl rfl rfl (r_move rfl) ?_
        refine F.qn rfl rfl rfl rfl (r_move rfl) ?_
        refine F.qcn rfl rfl rfl rfl (q_callF (xs := _) rfl ok99 rfl rfl (fun w hw => spec_l1Has.ok h70 w ((rd_sl (i := 2) rfl) w hw))) ?_
        refine F.qn rfl rfl rfl rfl (r_not rfl) ?_
        refine F.nil (Nrm.seq ?_)
        obtain ⟨⟨y7, y8⟩, hE_5, hE_3⟩ := bind_some hE_3
        refine Tri.cut (fun e' C' => ∃ (v7_2 : Value) (S7_2 : Nat → Prop) (v8_2 : Value) (S8_2 : Nat → Prop), SlLen v7_2 (y7).length ∧ SlLen v8_2 (y8).length ∧ e' = [(2, .int .i64 a2), (3, .pointer (some ⟨b3_1, 0, none⟩)), (7, v7_2), (8, v8_2), (9, .int .i64 x9), (10, .int .i64 x10)] ∧ C' = Sep w noM [R.box b3_1 27 [.int .i64 a0_0, va0_1, va0_2], R.sl S7_2 v7_2 (y7 : List (Int)), R.sl S8_2 v8_2 (y8 : List (Int))]) ?_ (fun hj_3 => ?_)
        ·rintro _ _ ⟨v7_2, S7_2, v8_2, S8_2, hl_v7_2, hl_v8_2, rfl, rfl⟩
         refine Nrm.block ?_
         cases hE_3
         refine Nrm.only [2, 3, 7, 8, 9, 10] rfl ?_
         refine Nrm.pick [0, 1, 2] rfl rfl ?_
         exact hj_1 _ _ ⟨v7_2, S7_2, v8_2, S8_2, hl_v7_2, hl_v8_2, rfl, rfl⟩
        ·refine Tri.cond (b := !t70) rfl (fun g_4 => ?_) (fun g_4 => ?_)
         ·replace hE_5 := if_tt g_4 hE_5
          refine Tri.seq ?_
          obtain ⟨t74, h74, hE_5⟩ := bind_some hE_5
          refine Tri.reg (l := [0, 1, 2, 3]) rfl ?_
          refine F.qn rfl rfl rfl rfl (r_move rfl) ?_
          refine F.qn rfl rfl rfl rfl (r_move rfl) ?_
          refine F.efn rfl rfl rfl rfl (d_callM (xs := _) (cs := [R.sl T7r w7r (x7r : List (Int))]) (rest := [R.box b11_1 121 [.int .i64 t33.1, .int .i64 t33.2.1, .int .i64 t33.2.2], R.box b3_1 27 [.int .i64 a0_0, va0_1, va0_2], R.sl T8r w8r (x8r : List (Int))]) [2] [0, 1, 3] rfl ok204 rfl rfl rfl rfl (fun w hw => spec_l1Put.ok h74 w hl_w7r (Sep.sub hw))) ?_
          rintro v74_1 _ ⟨_, ⟨S74_1, hl_v74_1, rfl⟩, rfl⟩
          refine F.qn rfl rfl rfl rfl (r_assign rfl) ?_
          refine F.nil (Nrm.seq ?_)
          obtain ⟨hs78, hE_5⟩ := ck hE_5
          refine Tri.reg (l := [0, 1, 2, 3, 4]) rfl ?_
          refine F.qn rfl rfl rfl rfl (r_move rfl) ?_
          refine F.qn rfl rfl rfl rfl (r_move rfl) ?_
          refine F.mn rfl rfl rfl rfl (m_buildF (l := ([w64 ((w64 (t33.1 + t33.2.1)) - t65)] : List (Int))) Try.underlying25 ti3 rfl rfl rfl rfl rfl) ?_
          rintro v77_1 _ ⟨S77_1, hl_v77_1, rfl⟩
          refine F.efn rfl rfl rfl rfl (d_append (i := 4) Try.underlying25 Try.underlying25 ti3 rfl (by decide) rfl rfl rfl (rd_sl (i := 0) rfl) hs78) ?_
          rintro v78_1 _ ⟨S78_1, rfl, hl_v78_1⟩
          refine F.qn rfl rfl rfl rfl (r_assign rfl) ?_
          refine F.nil ?_
          cases hE_5
          refine Nrm.only [2, 3, 7, 8, 9, 10] rfl ?_
          refine Nrm.pick [3, 1, 4] rfl rfl ?_
          exact hj_3 _ _ ⟨v74_1, S74_1, v78_1, S78_1, hl_v74_1, hl_v78_1, rfl, rfl⟩
         ·replace hE_5 := if_ff g_4 hE_5
          refine Tri.skip ?_
          cases hE_5
          refine Nrm.only [2, 3, 7, 8, 9, 10] rfl ?_
          refine Nrm.pick [1, 2, 3] rfl rfl ?_
          exact hj_3 _ _ ⟨w7r, T7r, w8r, T8r, hl_w7r, hl_w8r, rfl, rfl⟩
      ·obtain ⟨t38, h38, hE_4⟩ := bind_some hE_4
       rcases Bool.eq_false_or_eq_true (!t38) with g40 | g40
       ·replace hE_4 := if_tt g40 hE_4
        refine Tri.drawA mixedT Sep.up [(0, true), (1, true), (2, true), (3, true), (4, true), (5, true), (6, true), (7, true), (8, true), (9, true), (10, true), (11, true), (12, true), (13, true), (14, true), (15, true), (16, true), (17, true), (18, true), (19, true), (20, true), (21, true), (22, true)] [] (by kernel_rfl) ?_
        refine S.qn rfl rfl rfl rfl (r_move rfl) ?_
        refine S.qn rfl rfl rfl rfl (r_indexAddrA Try.underlying121 ti3 rfl rfl (by decide) (by decide)) ?_
        refine S.qn rfl rfl rfl rfl (r_load ta3 rfl (fun w hw => cell_1 (box_cells (i := 0) rfl w hw) rfl)) ?_
        refine S.qcn rfl rfl rfl rfl (q_callF (xs := _) rfl ok203 rfl rfl (fun w hw => spec_l2Has.ok h38 w )) ?_
        refine S.qn rfl rfl rfl rfl (r_not rfl) ?_
        refine S.qn rfl rfl rfl rfl (r_move rfl) ?_
        iterate 8 refine S.sk rfl rfl rfl (wf rfl rfl rfl g40) ?_
        iterate 7 refine S.sk rfl rfl rfl (wanted_undef rfl rfl rfl) ?_
        refine S.sk rfl rfl rfl (wf rfl rfl rfl g40) ?_
        refine S.qn rfl rfl rfl rfl (r_pick rfl rfl g40) ?_
        refine S.nil (F.nil ?_)
        cases hE_4
        refine Nrm.only [2, 3, 7, 8, 9, 10, 11, 57] rfl ?_
        refine Nrm.pick [0, 1, 3, 2] rfl rfl ?_
        exact hj_2 _ _ ⟨rfl, rfl⟩
       ·replace hE_4 := if_ff g40 hE_4
        obtain ⟨t45, h45, hE_4⟩ := bind_some hE_4
        rcases Bool.eq_false_or_eq_true (t33.1 != t45) with g48 | g48
        ·replace hE_4 := if_tt g48 hE_4
         obtain ⟨t53, h53, hE_4⟩ := bind_some hE_4
         refine Tri.drawA mixedT Sep.up [(0, true), (1, true), (2, true), (3, true), (4, true), (5, true), (6, true), (7, true), (8, true), (9, true), (10, true), (11, true), (12, true), (13, true), (14, true), (15, true), (16, true), (17, true), (18, true), (19, true), (20, true), (21, true), (22, true)] [] (by kernel_rfl) ?_
         refine S.qn rfl rfl rfl rfl (r_move rfl) ?_
         refine S.qn rfl rfl rfl rfl (r_indexAddrA Try.underlying121 ti3 rfl rfl (by decide) (by decide)) ?_
         refine S.qn rfl rfl rfl rfl (r_load ta3 rfl (fun w hw => cell_1 (box_cells (i := 0) rfl w hw) rfl)) ?_
         refine S.qcn rfl rfl rfl rfl (q_callF (xs := _) rfl ok203 rfl rfl (fun w hw => spec_l2Has.ok h38 w )) ?_
         refine S.qn rfl rfl rfl rfl (r_not rfl) ?_
         refine S.qn rfl rfl rfl rfl (r_move rfl) ?_
         refine S.qg rfl rfl rfl rfl rfl rfl g40 (r_indexAddrA Try.underlying121 ti3 rfl rfl (by decide) (by decide)) ?_
         refine S.qg rfl rfl rfl rfl rfl rfl g40 (r_load ta3 rfl (fun w hw => cell_1 (box_cells (i := 0) rfl w hw) rfl)) ?_
         refine S.qg rfl rfl rfl rfl rfl rfl g40 (r_move rfl) ?_
         refine S.qg rfl rfl rfl rfl rfl rfl g40 (r_move rfl) ?_
         refine S.qg rfl rfl rfl rfl rfl rfl g40 (r_indexAddrS Try.underlying25 ti3 rfl hl_w8r rfl (rdl_some h45).1 (rdl_some h45).2.1) ?_
         refine S.qg rfl rfl rfl rfl rfl rfl g40 (r_load ta3 rfl (fun w hw => cell_0 (Rd.flat ((rd_sl (i := 2) rfl) w hw) (rdl_some h45).2.2) rfl)) ?_
         refine S.qg rfl rfl rfl rfl rfl rfl g40 (r_neq rfl rfl) ?_
         refine S.qg rfl rfl rfl rfl rfl rfl g40 (r_move rfl) ?_
         refine S.qg rfl rfl rfl rfl rfl rfl g48 (r_indexAddrA Try.underlying121 ti3 rfl rfl (by decide) (by decide)) ?_
         refine S.qg rfl rfl rfl rfl rfl rfl g48 (r_load ta3 rfl (fun w hw => cell_1 (box_cells (i := 0) rfl w hw) rfl)) ?_
         refine S.qg rfl rfl rfl rfl rfl rfl g48 (r_move rfl) ?_
         refine S.qg rfl rfl rfl rfl rfl rfl g48 (r_move rfl) ?_
         refine S.qg rfl rfl rfl rfl rfl rfl g48 (r_indexAddrS Try.underlying25 ti3 rfl hl_w8r rfl (rdl_some h53).1 (rdl_some h53).2.1) ?_
         refine S.qg rfl rfl rfl rfl rfl rfl g48 (r_load ta3 rfl (fun w hw => cell_0 (Rd.flat ((rd_sl (i := 2) rfl) w hw) (rdl_some h53).2.2) rfl)) ?_
         refine S.qg rfl rfl rfl rfl rfl rfl g48 (r_neq rfl rfl) ?_
         refine S.qg rfl rfl rfl rfl rfl rfl g40 (r_pick rfl rfl g48) ?_
         refine S.qn rfl rfl rfl rfl (r_pickf rfl rfl g40) ?_
         refine S.nil (F.nil ?_)
         cases hE_4
         refine Nrm.only [2, 3, 7, 8, 9, 10, 11, 57] rfl ?_
         refine Nrm.pick [0, 1, 3, 2] rfl rfl ?_
         exact hj_2 _ _ ⟨rfl, rfl⟩
        ·replace hE_4 := if_ff g48 hE_4
         refine Tri.drawA mixedT Sep.up [(0, true), (1, true), (2, true), (3, true), (4, true), (5, true), (6, true), (7, true), (8, true), (9, true), (10, true), (11, true), (12, true), (13, true), (14, true), (15, true), (16, true), (17, true), (18, true), (19, true), (20, true), (21, true), (22, true)] [] (by kernel_rfl) ?_
         refine S.qn rfl rfl rfl rfl (r_move rfl) ?_
         refine S.qn rfl rfl rfl rfl (r_indexAddrA Try.underlying121 ti3 rfl rfl (by decide) (by decide)) ?_
         refine S.qn rfl rfl rfl rfl (r_load ta3 rfl (fun w hw => cell_1 (box_cells (i := 0) rfl w hw) rfl)) ?_
         refine S.qcn rfl rfl rfl rfl (q_callF (xs := _) rfl ok203 rfl rfl (fun w hw => spec_l2Has.ok h38 w )) ?_
         refine S.qn rfl rfl rfl rfl (r_not rfl) ?_
         refine S.qn rfl rfl rfl rfl (r_move rfl) ?_
         refine S.qg rfl rfl rfl rfl rfl rfl g40 (r_indexAddrA Try.underlying121 ti3 rfl rfl (by decide) (by decide)) ?_
         refine S.qg rfl rfl rfl rfl rfl rfl g40 (r_load ta3 rfl (fun w hw => cell_1 (box_cells (i := 0) rfl w hw) rfl)) ?_
         refine S.qg rfl rfl rfl rfl rfl rfl g40 (r_move rfl) ?_
         refine S.qg rfl rfl rfl rfl rfl rfl g40 (r_move rfl) ?_
         refine S.qg rfl rfl rfl rfl rfl rfl g40 (r_indexAddrS Try.underlying25 ti3 rfl hl_w8r rfl (rdl_some h45).1 (rdl_some h45).2.1) ?_
         refine S.qg rfl rfl rfl rfl rfl rfl g40 (r_load ta3 rfl (fun w hw => cell_0 (Rd.flat ((rd_sl (i := 2) rfl) w hw) (rdl_some h45).2.2) rfl)) ?_
         refine S.qg rfl rfl rfl rfl rfl rfl g40 (r_neq rfl rfl) ?_
         refine S.qg rfl rfl rfl rfl rfl rfl g40 (r_move rfl) ?_
         iterate 7 refine S.sk rfl rfl rfl (wf rfl rfl rfl g48) ?_
         refine S.qg rfl rfl rfl rfl rfl rfl g40 (r_pickf rfl rfl g48) ?_
         refine S.qn rfl rfl rfl rfl (r_pickf rfl rfl g40) ?_
         refine S.nil (F.nil ?_)
         cases hE_4
         refine Nrm.only [2, 3, 7, 8, 9, 10, 11, 57] rfl ?_
         refine Nrm.pick [0, 1, 3, 2] rfl rfl ?_
         exact hj_2 _ _ ⟨rfl, rfl⟩
    ·replace hE_2 := if_ff g_2 hE_2
     refine Tri.exit ?_
     refine Exi.then ?_
     refine Exi.then ?_
     refine Exi.same ?_
     cases hE_2
     refine Nrm.block ?_
     refine Nrm.seq (Tri.reg (l := [0, 1, 2]) rfl ?_)
     refine F.qn rfl rfl rfl rfl (r_move rfl) ?_
     refine F.qn rfl rfl rfl rfl (r_add rfl rfl) ?_
     refine F.qn rfl rfl rfl rfl (r_assign rfl) ?_
     refine F.nil (Nrm.round ?_)
     refine Rnd.only [2, 3, 7, 8, 9] rfl ?_
     refine Rnd.pick [0, 1, 2] rfl rfl ?_
     exact ih_1 _ _ ⟨x7r, x8r, w64 (x9 + 1), w7r, T7r, w8r, T8r, hE_1, hl_w7r, hl_w8r, rfl, rfl⟩
  ·replace hE_1 := if_ff g_1 hE_1
   refine Tri.exit ?_
   refine Exi.then ?_
   refine Exi.then ?_
   refine Exi.same ?_
   cases hE_1
   refine Nrm.seq (Tri.seq (Tri.reg (l := [0, 1]) rfl ?_))
   refine F.qn rfl rfl rfl rfl (r_move rfl) ?_
   refine F.qn rfl rfl rfl rfl (r_assign rfl) ?_
   refine F.nil (Nrm.seq (Tri.ret ?_))
   cases h
   exact Rtn.body (.tmp rfl .nil) (fun w hw => ⟨_, _, rfl, ⟨T7, hl_w7, rfl⟩, Sep.pick (is := [2]) rfl rfl hw⟩)


def spec_l2Close.l1 (k : Nat) (a0_2 : List Int) (t11 : List Int) : Nat → Int → Int → Option (Int)
 | 0, _, _ => none
 | n + 1, x7, x8 => (if (decide (x8 < (t11.length : Int))) = true then (rdl t11 x8).bind fun t24 => (rdl a0_2 t24).bind fun t26 => spec_l2Close.l1 k a0_2 t11 n (bor x7 t26) (w64 (x8 + 1)) else some x7)

def spec_l2Close.l0 (k : Nat) (a0_0 : Int) (a0_1 : List (Int × Int × Int)) (a0_2 : List Int) : Nat → Int → Option ((Unit) ⊕ (Int × (List Int)))
 | 0, _ => none
 | n + 1, x1 => (spec_l2Reach.f k a0_0 a0_1 a0_2 0 x1).bind fun t11 => (spec_l2Close.l1 k a0_2 t11 k x1 0).bind fun x7 => (if (x7 == x1) = true then some (Sum.inr (x1, t11)) else spec_l2Close.l0 k a0_0 a0_1 a0_2 n x7)

def spec_l2Close.f (k : Nat) (a0_0 : Int) (a0_1 : List (Int × Int × Int)) (a0_2 : List Int) (a1 : Int) : Option (Int × (List Int)) := (spec_l2Close.l0 k a0_0 a0_1 a0_2 k a1).bind fun s => Lr s some fun _ => none

theorem spec_l2Close.ok {k : Nat}  {a0_0 : Int} {a0_1 : List (Int × Int × Int)} {a0_2 : List Int} {a1 : Int} {r0 : Int} {r1 : List Int} (h : spec_l2Close.f k a0_0 a0_1 a0_2 a1 = some (r0, r1)) (w : World) {va0_1 : Value} {va0_2 : Value} (hr_a0_1 : Rd w va0_1 a0_1) (hr_a0_2 : Rd w va0_2 a0_2) :
  Calls Try.prog 177 ([.agg ([.int .i64 a0_0, va0_1, va0_2].toArray), .int .i64 a1] : List Value).toArray w (Post (fun u ns => ∃ (ur1 : Value) (Sr1 : Nat → Prop), u = .tuple #[.int .i64 r0, ur1] ∧ SlLen ur1 r1.length ∧ ns = [R.sl Sr1 ur1 r1]) w) := by
 unfold spec_l2Close.f at h
 have hl_va0_1 := hr_a0_1.len
 have hl_va0_2 := hr_a0_2.len
 refine Calls.of_tri (N := 35) Try.func177 rfl rfl rfl (Sep.nil (M := noM)) ?_
 refine Tri.seq (Tri.reg (l := [0, 1, 2]) rfl ?_)
 refine F.mn rfl rfl rfl rfl (m_boxG rfl rfl) ?_
 rintro _ _ ⟨b2_1, rfl, rfl⟩
 refine F.qn rfl rfl rfl rfl (r_assign rfl) ?_
 refine F.qn rfl rfl rfl rfl (r_assign rfl) ?_
 refine F.nil (Nrm.seq ?_)
 obtain ⟨s0, hE_1, h⟩ := bind_some h
 refine Tri.block ?_
 refine Tri.only [1, 2] rfl ?_
 refine Tri.pick [0] rfl rfl ?_
 refine Tri.rounds (fun n e' C' => ∃ (x1' : Int), spec_l2Close.l0 k a0_0 a0_1 a0_2 n x1' = some s0 ∧ e' = [(1, .int .i64 x1'), (2, .pointer (some ⟨b2_1, 0, none⟩))] ∧ C' = Sep w noM [R.box b2_1 27 [.int .i64 a0_0, va0_1, va0_2]]) k ?_ ?_ ?_
 ·exact ⟨a1, hE_1, rfl, rfl⟩
 ·rintro _ _ ⟨_, hE_1, _⟩
  rw [spec_l2Close.l0.eq_1] at hE_1; cases hE_1
 ·rintro n_1 _ _ ⟨x1, hE_1, rfl, rfl⟩ ih_1
  rw [spec_l2Close.l0.eq_2] at hE_1
  refine Tri.block ?_
  refine Tri.seq ?_
  obtain ⟨t11, h11, hE_1⟩ := bind_some hE_1
  refine Tri.reg (l := [0, 1, 2, 3, 4, 5]) rfl ?_
  refine F.qn rfl rfl rfl rfl (r_loadA ta27 ti27 rfl rfl (fun w hw => (box_cells (i := 0) rfl w hw))) ?_
  refine F.qn rfl rfl rfl rfl (r_move rfl) ?_
  refine F.mn rfl rfl rfl rfl (m_callF (xs := _) rfl ok161 rfl rfl (fun w hw => spec_l2Reach.ok h11 w ((fun _ hw => hr_a0_1.sep hw) w hw) ((fun _ hw => hr_a0_2.sep hw) w hw))) ?_
  rintro v11_1 _ ⟨_, ⟨S11_1, hl_v11_1, rfl⟩, rfl⟩
  refine F.qn rfl rfl rfl rfl (r_move rfl) ?_
  refine F.qn rfl rfl rfl rfl (r_assign rfl) ?_
  refine F.qn rfl rfl rfl rfl (r_assign rfl) ?_
  refine F.nil (Nrm.seq (Tri.seq (Tri.seq (Tri.reg (l := [0]) rfl ?_))))
  refine F.qn rfl rfl rfl rfl (r_assign rfl) ?_
  refine F.nil (Nrm.seq ?_)
  obtain ⟨x7, hE_2, hE_1⟩ := bind_some hE_1
  refine Tri.block ?_
  refine Tri.only [1, 2, 6, 7, 8] rfl ?_
  refine Tri.pick [1, 0] rfl rfl ?_
  refine Tri.rounds (fun n e' C' => ∃ (x7' : Int) (x8' : Int), spec_l2Close.l1 k a0_2 t11 n x7' x8' = some x7 ∧ e' = [(1, .int .i64 x1), (2, .pointer (some ⟨b2_1, 0, none⟩)), (6, v11_1), (7, .int .i64 x7'), (8, .int .i64 x8')] ∧ C' = Sep w noM [R.box b2_1 27 [.int .i64 a0_0, va0_1, va0_2], R.sl S11_1 v11_1 (t11 : List (Int))]) k ?_ ?_ ?_
  ·exact ⟨x1, 0, hE_2, rfl, rfl⟩
  ·rintro _ _ ⟨_, _, hE_2, _⟩
   rw [spec_l2Close.l1.eq_1] at hE_2; cases hE_2
  ·rintro n_2 _ _ ⟨x7, x8, hE_2, rfl, rfl⟩ ih_2
   rw [spec_l2Close.l1.eq_2] at hE_2
   refine Tri.seq (Tri.seq (Tri.reg (l := [0, 1, 2, 3]) rfl ?_))
   refine F.qn rfl rfl rfl rfl (r_move rfl) ?_
   refine F.qn rfl rfl rfl rfl (r_move rfl) ?_
   refine F.qn rfl rfl rfl rfl (r_len Try.underlying25 rfl hl_v11_1) ?_
   refine F.qn rfl rfl rfl rfl (r_lss rfl rfl) ?_
   refine F.nil (Nrm.seq (Tri.cond (b := decide (x8 < (t11.length : Int))) rfl (fun g_1 => ?_) (fun g_1 => ?_)))
   ·replace hE_2 := if_tt g_1 hE_2
    refine Tri.skip (Nrm.seq (Tri.seq (Tri.block ?_)))
    obtain ⟨t24, h24, hE_2⟩ := bind_some hE_2
    obtain ⟨t26, h26, hE_2⟩ := bind_some hE_2
    refine Tri.drawA mixedT Sep.up [(0, true), (1, true), (2, true), (3, true), (4, true), (5, true), (6, true), (7, true), (8, true), (9, true), (10, true)] [] (by kernel_rfl) ?_
    refine S.qn rfl rfl rfl rfl (r_move rfl) ?_
    refine S.qn rfl rfl rfl rfl (r_fieldAddr tf27_2 rfl) ?_
    refine S.qn rfl rfl rfl rfl (r_load ta25 rfl (fun w hw => cell_1 (box_cells (i := 0) rfl w hw) rfl)) ?_
    refine S.qn rfl rfl rfl rfl (r_move rfl) ?_
    refine S.qn rfl rfl rfl rfl (r_move rfl) ?_
    refine S.qn rfl rfl rfl rfl (r_indexAddrS Try.underlying25 ti3 rfl hl_v11_1 rfl (rdl_some h24).1 (rdl_some h24).2.1) ?_
    refine S.qn rfl rfl rfl rfl (r_load ta3 rfl (fun w hw => cell_0 (Rd.flat ((rd_sl (i := 1) rfl) w hw) (rdl_some h24).2.2) rfl)) ?_
    refine S.qn rfl rfl rfl rfl (r_indexAddrS Try.underlying25 ti3 rfl hl_va0_2 rfl (rdl_some h26).1 (rdl_some h26).2.1) ?_
    refine S.qn rfl rfl rfl rfl (r_load ta3 rfl (fun w hw => cell_0 (Rd.flat ((fun _ hw => hr_a0_2.sep hw) w hw) (rdl_some h26).2.2) rfl)) ?_
    refine S.qn rfl rfl rfl rfl (r_or rfl rfl) ?_
    refine S.qn rfl rfl rfl rfl (r_assign rfl) ?_
    refine S.nil (F.nil (Nrm.block ?_))
    refine Nrm.seq (Tri.reg (l := [0, 1, 2]) rfl ?_)
    refine F.qn rfl rfl rfl rfl (r_move rfl) ?_
    refine F.qn rfl rfl rfl rfl (r_add rfl rfl) ?_
    refine F.qn rfl rfl rfl rfl (r_assign rfl) ?_
    refine F.nil (Nrm.round ?_)
    refine Rnd.only [1, 2, 6, 7, 8] rfl ?_
    refine Rnd.pick [0, 1] rfl rfl ?_
    exact ih_2 _ _ ⟨bor x7 t26, w64 (x8 + 1), hE_2, rfl, rfl⟩
   ·replace hE_2 := if_ff g_1 hE_2
    refine Tri.exit ?_
    refine Exi.then ?_
    refine Exi.then ?_
    refine Exi.same ?_
    cases hE_2
    refine Nrm.seq (Tri.seq (Tri.seq (Tri.reg (l := [0, 1, 2]) rfl ?_)))
    refine F.qn rfl rfl rfl rfl (r_move rfl) ?_
    refine F.qn rfl rfl rfl rfl (r_move rfl) ?_
    refine F.qn rfl rfl rfl rfl (r_eql rfl rfl) ?_
    refine F.nil (Nrm.seq (Tri.cond (b := x7 == x1) rfl (fun g_2 => ?_) (fun g_2 => ?_)))
    ·replace hE_1 := if_tt g_2 hE_1
     refine Tri.seq (Tri.reg (l := [0, 1, 2, 3]) rfl ?_)
     refine F.qn rfl rfl rfl rfl (r_move rfl) ?_
     refine F.qn rfl rfl rfl rfl (r_move rfl) ?_
     refine F.qn rfl rfl rfl rfl (r_assign rfl) ?_
     refine F.qn rfl rfl rfl rfl (r_assign rfl) ?_
     refine F.nil (Nrm.seq (Tri.ret ?_))
     refine Rtn.then ?_
     refine Rtn.block ?_
     refine Rtn.then ?_
     refine Rtn.block ?_
     cases hE_1
     replace h := Lr_inr h
     cases h
     exact Rtn.body (.tmp rfl (.tmp rfl .nil)) (fun w hw => ⟨_, _, rfl, ⟨v11_1, S11_1, rfl, hl_v11_1, rfl⟩, Sep.pick (is := [1]) rfl rfl hw⟩)
    ·replace hE_1 := if_ff g_2 hE_1
     refine Tri.skip (Nrm.seq (Tri.reg (l := [0, 1]) rfl ?_))
     refine F.qn rfl rfl rfl rfl (r_move rfl) ?_
     refine F.qn rfl rfl rfl rfl (r_assign rfl) ?_
     refine F.nil (Nrm.block ?_)
     refine Nrm.round ?_
     refine Rnd.only [1, 2] rfl ?_
     refine Rnd.pick [0] rfl rfl ?_
     exact ih_1 _ _ ⟨x7, hE_1, rfl, rfl⟩


def spec_l3Wins.f (k : Nat) (a0_0 : Int) (a0_1 : List (Int × Int × Int)) (a0_2 : List Int) (a1 : Int) : Option (Bool) := (spec_l2Close.f k a0_0 a0_1 a0_2 a1).bind fun (t10_1, t10_2) => (spec_l1Has.f k t10_2 (w64 (a0_0 - 1))).bind fun t17 => some t17

theorem spec_l3Wins.ok {k : Nat}  {a0_0 : Int} {a0_1 : List (Int × Int × Int)} {a0_2 : List Int} {a1 : Int} {r0 : Bool} (h : spec_l3Wins.f k a0_0 a0_1 a0_2 a1 = some r0) (w : World) {va0_1 : Value} {va0_2 : Value} (hr_a0_1 : Rd w va0_1 a0_1) (hr_a0_2 : Rd w va0_2 a0_2) :
  Calls Try.prog 167 ([.agg ([.int .i64 a0_0, va0_1, va0_2].toArray), .int .i64 a1] : List Value).toArray w (fun e w' => e = .returned (.bool r0) ∧ Ext w w') := by
 unfold spec_l3Wins.f at h
 have hl_va0_1 := hr_a0_1.len
 have hl_va0_2 := hr_a0_2.len
 refine Calls.of_tri (N := 18) Try.func167 rfl rfl rfl (Sep.nil (M := noM)) ?_
 refine Tri.seq (Tri.reg (l := [0, 1]) rfl ?_)
 refine F.mn rfl rfl rfl rfl (m_boxG rfl rfl) ?_
 rintro _ _ ⟨b2_1, rfl, rfl⟩
 refine F.qn rfl rfl rfl rfl (r_assign rfl) ?_
 refine F.nil (Nrm.seq (Tri.seq ?_))
 obtain ⟨⟨t10_1, t10_2⟩, h10, h⟩ := bind_some h
 refine Tri.reg (l := [0, 1, 2, 3, 4, 5, 6, 7]) rfl ?_
 refine F.qn rfl rfl rfl rfl (r_loadA ta27 ti27 rfl rfl (fun w hw => (box_cells (i := 0) rfl w hw))) ?_
 refine F.qn rfl rfl rfl rfl (r_move rfl) ?_
 refine F.mn rfl rfl rfl rfl (m_callF (xs := _) rfl ok177 rfl rfl (fun w hw => spec_l2Close.ok h10 w ((fun _ hw => hr_a0_1.sep hw) w hw) ((fun _ hw => hr_a0_2.sep hw) w hw))) ?_
 rintro _ _ ⟨_, ⟨v10_1, S10_1, rfl, hl_v10_1, rfl⟩, rfl⟩
 refine F.qn rfl rfl rfl rfl (r_move rfl) ?_
 refine F.qn rfl rfl rfl rfl (r_extract rfl rfl) ?_
 refine F.qn rfl rfl rfl rfl (r_extract rfl rfl) ?_
 refine F.qn rfl rfl rfl rfl (r_assign rfl) ?_
 refine F.qn rfl rfl rfl rfl (r_assign rfl) ?_
 refine F.nil (Nrm.seq (Tri.seq ?_))
 obtain ⟨t17, h17, h⟩ := bind_some h
 refine Tri.reg (l := [0, 1, 2, 3, 4, 5]) rfl ?_
 refine F.qn rfl rfl rfl rfl (r_move rfl) ?_
 refine F.qn rfl rfl rfl rfl (r_fieldAddr tf27_0 rfl) ?_
 refine F.qn rfl rfl rfl rfl (r_load ta3 rfl (fun w hw => cell_1 (box_cells (i := 1) rfl w hw) rfl)) ?_
 refine F.qn rfl rfl rfl rfl (r_sub rfl rfl) ?_
 refine F.qcn rfl rfl rfl rfl (q_callF (xs := _) rfl ok99 rfl rfl (fun w hw => spec_l1Has.ok h17 w ((rd_sl (i := 0) rfl) w hw))) ?_
 refine F.qn rfl rfl rfl rfl (r_assign rfl) ?_
 refine F.nil (Nrm.seq (Tri.ret ?_))
 cases h
 exact Rtn.body (.tmp rfl .nil) (fun w hw => ⟨rfl, hw.ext⟩)


def spec_l9Winning.l0 (k : Nat) (a0_0 : Int) (a0_1 : List (Int × Int × Int)) (a0_2 : List Int) (a1 : Int) (y6 : List (List Int)) : Nat → (List (Int)) → Int → Option ((List (Int)))
 | 0, _, _ => none
 | n + 1, x5, x7 => (if (decide (x7 < (y6.length : Int))) = true then (rdl y6 x7).bind fun t25 => (spec_l2Colours.f k a1).bind fun t22 => (spec_l9Lay.f k a0_0 a0_1 a0_2 t22 t25).bind fun (t27_1, t27_2, t27_3) => (spec_l3Wins.f k t27_1 t27_2 t27_3 0).bind fun t28 => ((if t28 = true then (rdl y6 x7).bind fun t32 => if (x5 ++ [x7]).length < 1099511627776 then some (x5 ++ [x7]) else none else some x5)).bind fun y5r => spec_l9Winning.l0 k a0_0 a0_1 a0_2 a1 y6 n y5r (w64 (x7 + 1)) else some x5)

def spec_l9Winning.f (k : Nat) (a0_0 : Int) (a0_1 : List (Int × Int × Int)) (a0_2 : List Int) (a1 : Int) : Option ((List (List Int))) := ((spec_l2Many.f k a1).bind fun t12 => (spec_l9All.f k a0_0 t12).bind fun t13 => some (([] : List (List Int)), t13)).bind fun (y5, y6) => if y5 = [] then (spec_l9Winning.l0 k a0_0 a0_1 a0_2 a1 y6 k [] 0).bind fun x5 => if idxOK (x5) y6.length then some ((x5).map (fun x => List.getD y6 x.toNat [])) else none else none

theorem spec_l9Winning.ok {k : Nat}  {a0_0 : Int} {a0_1 : List (Int × Int × Int)} {a0_2 : List Int} {a1 : Int} {r0 : List (List Int)} (h : spec_l9Winning.f k a0_0 a0_1 a0_2 a1 = some r0) (w : World) {va0_1 : Value} {va0_2 : Value} (hr_a0_1 : Rd w va0_1 a0_1) (hr_a0_2 : Rd w va0_2 a0_2) :
  Calls Try.prog 89 ([.agg ([.int .i64 a0_0, va0_1, va0_2].toArray), .int .i64 a1] : List Value).toArray w (Post (fun u ns => ∃ (Sr0 : Nat → Prop), SlLen u r0.length ∧ ns = [R.sl Sr0 u r0]) w) := by
 unfold spec_l9Winning.f at h
 have hl_va0_1 := hr_a0_1.len
 have hl_va0_2 := hr_a0_2.len
 refine Calls.of_tri (N := 37) Try.func89 rfl rfl rfl (Sep.nil (M := noM)) ?_
 refine Tri.seq (Tri.reg (l := [0, 1]) rfl ?_)
 refine F.mn rfl rfl rfl rfl (m_boxG rfl rfl) ?_
 rintro _ _ ⟨b2_1, rfl, rfl⟩
 refine F.qn rfl rfl rfl rfl (r_assign rfl) ?_
 refine F.nil (Nrm.seq (Tri.seq ?_))
 obtain ⟨⟨y5, y6⟩, hE_1, h⟩ := bind_some h
 refine Tri.cut (fun e' C' => ∃ (v5_1 : Value) (S5_1 : Nat → Prop) (v6_1 : Value) (S6_1 : Nat → Prop), SlLen v5_1 (y5).length ∧ SlLen v6_1 (y6).length ∧ e' = [(1, .int .i64 a1), (2, .pointer (some ⟨b2_1, 0, none⟩)), (5, v5_1), (6, v6_1)] ∧ C' = Sep w noM [R.box b2_1 27 [.int .i64 a0_0, va0_1, va0_2], R.sl S5_1 v5_1 (y5 : List (List Int)), R.sl S6_1 v6_1 (y6 : List (List Int))]) ?_ (fun hj_1 => ?_)
 ·rintro _ _ ⟨v5_1, S5_1, v6_1, S6_1, hl_v5_1, hl_v6_1, rfl, rfl⟩
  refine Nrm.seq (Tri.seq (Tri.seq (Tri.reg (l := [0]) rfl ?_)))
  refine F.qn rfl rfl rfl rfl (r_assign rfl) ?_
  refine F.nil (Nrm.seq ?_)
  obtain ⟨hnl, h⟩ := ck h
  subst hnl
  refine Tri.ex (refSplit (p := 2) (q := 1) (js := [0]) rfl rfl) ?_
  rintro _ ⟨lsr, S1r, S2r, habr, hflr, hvar, rfl⟩
  obtain ⟨x5, hE_2, h⟩ := bind_some h
  refine Tri.block ?_
  refine Tri.only [1, 2, 5, 6, 7] rfl ?_
  refine Tri.pick [0, 1, 3, 2] rfl rfl ?_
  refine Tri.rounds (fun n e' C' => ∃ (x5' : List (Int)) (x7' : Int) (w5 : Value) (T5 : Nat → Prop), spec_l9Winning.l0 k a0_0 a0_1 a0_2 a1 y6 n x5' x7' = some x5 ∧ SlLen w5 (x5').length ∧ e' = [(1, .int .i64 a1), (2, .pointer (some ⟨b2_1, 0, none⟩)), (5, w5), (6, v6_1), (7, .int .i64 x7')] ∧ C' = Sep w noM [R.sl S1r v6_1 lsr, R.rows S2r lsr, R.box b2_1 27 [.int .i64 a0_0, va0_1, va0_2], R.sl T5 w5 (refs lsr (x5' : List (Int)))]) k ?_ ?_ ?_
  ·exact ⟨[], 0, v5_1, S5_1, hE_2, hl_v5_1, rfl, rfl⟩
  ·rintro _ _ ⟨_, _, _, _, hE_2, _⟩
   rw [spec_l9Winning.l0.eq_1] at hE_2; cases hE_2
  ·rintro n_1 _ _ ⟨x5, x7, w5, T5, hE_2, hl_w5, rfl, rfl⟩ ih_1
   rw [spec_l9Winning.l0.eq_2] at hE_2
   refine Tri.seq (Tri.seq (Tri.reg (l := [0, 1, 2, 3]) rfl ?_))
   refine F.qn rfl rfl rfl rfl (r_move rfl) ?_
   refine F.qn rfl rfl rfl rfl (r_move rfl) ?_
   refine F.qn rfl rfl rfl rfl (r_len Try.underlying83 rfl hl_v6_1) ?_
   refine F.qn rfl rfl rfl rfl (r_lss rfl rfl) ?_
   refine F.nil (Nrm.seq (Tri.cond (b := decide (x7 < (y6.length : Int))) rfl (fun g_1 => ?_) (fun g_1 => ?_)))
   ·replace hE_2 := if_tt g_1 hE_2
    refine Tri.skip (Nrm.seq (Tri.seq (Tri.block ?_)))
    refine Tri.seq ?_
    obtain ⟨t25, h25, hE_2⟩ := bind_some hE_2
    obtain ⟨t22, h22, hE_2⟩ := bind_some hE_2
    obtain ⟨⟨t27_1, t27_2, t27_3⟩, h27, hE_2⟩ := bind_some hE_2
    obtain ⟨t28, h28, hE_2⟩ := bind_some hE_2
    refine Tri.drawA mixedT Sep.up [(0, true), (1, true), (3, true), (4, true), (5, true), (6, true), (2, false), (7, false), (8, true)] [] (by kernel_rfl) ?_
    refine S.qn rfl rfl rfl rfl (r_loadA ta27 ti27 rfl rfl (fun w hw => (box_cells (i := 2) rfl w hw))) ?_
    iterate 3 refine S.qn rfl rfl rfl rfl (r_move rfl) ?_
    refine S.qn rfl rfl rfl rfl (r_indexAddrS Try.underlying83 ti25 rfl hl_v6_1 rfl (rdl_some h25).1 (rdl_some h25).2.1) ?_
    refine S.qn rfl rfl rfl rfl (r_load ta25 rfl (fun w hw => cell_0 (hdr_cells (j := 0) rfl habr h25 hw) rfl)) ?_
    refine S.m rfl rfl rfl (wanted_none rfl) (m_callF (xs := _) rfl ok94 rfl rfl (fun w hw => spec_l2Colours.ok h22 w )) ?_
    rintro v22_2 _ ⟨_, ⟨S22_2, hl_v22_2, rfl⟩, rfl⟩
    refine S.m rfl rfl rfl (wanted_none rfl) (m_callF (xs := _) rfl ok114 rfl rfl (fun w hw => spec_l9Lay.ok h27 w ((fun _ hw => hr_a0_1.sep hw) w hw) ((fun _ hw => hr_a0_2.sep hw) w hw) ((rd_sl (i := 0) rfl) w hw) ((fun w hw => rows_rd (j := 2) rfl habr h25 hw) w hw))) ?_
    rintro _ _ ⟨_, ⟨v27_3, S27_3, v27_4, S27_4, rfl, hl_v27_3, hl_v27_4, rfl⟩, rfl⟩
    refine S.qcn rfl rfl rfl rfl (q_callF (xs := _) rfl ok167 rfl rfl (fun w hw => spec_l3Wins.ok h28 w ((rd_sl (i := 0) rfl) w hw) ((rd_sl (i := 1) rfl) w hw))) ?_
    refine S.nil (F.nil (Nrm.seq ?_))
    obtain ⟨y5r, hE_3, hE_2⟩ := bind_some hE_2
    refine Tri.cut (fun e' C' => ∃ (v5_2 : Value) (S5_2 : Nat → Prop), SlLen v5_2 (y5r).length ∧ e' = [(1, .int .i64 a1), (2, .pointer (some ⟨b2_1, 0, none⟩)), (5, v5_2), (6, v6_1), (7, .int .i64 x7)] ∧ C' = Sep w noM [R.sl S1r v6_1 lsr, R.rows S2r lsr, R.box b2_1 27 [.int .i64 a0_0, va0_1, va0_2], R.sl S5_2 v5_2 (refs lsr (y5r : List (Int)))]) ?_ (fun hj_2 => ?_)
    ·rintro _ _ ⟨v5_2, S5_2, hl_v5_2, rfl, rfl⟩
     refine Nrm.block ?_
     refine Nrm.seq (Tri.reg (l := [0, 1, 2]) rfl ?_)
     refine F.qn rfl rfl rfl rfl (r_move rfl) ?_
     refine F.qn rfl rfl rfl rfl (r_add rfl rfl) ?_
     refine F.qn rfl rfl rfl rfl (r_assign rfl) ?_
     refine F.nil (Nrm.round ?_)
     refine Rnd.only [1, 2, 5, 6, 7] rfl ?_
     refine Rnd.pick [0, 1, 2, 3] rfl rfl ?_
     exact ih_1 _ _ ⟨y5r, w64 (x7 + 1), v5_2, S5_2, hE_2, hl_v5_2, rfl, rfl⟩
    ·refine Tri.cond (b := t28) rfl (fun g_2 => ?_) (fun g_2 => ?_)
     ·replace hE_3 := if_tt g_2 hE_3
      obtain ⟨t32, h32, hE_3⟩ := bind_some hE_3
      obtain ⟨hs35, hE_3⟩ := ck hE_3
      refine Tri.reg (l := [0, 1, 2, 3, 4, 5, 6, 7]) rfl ?_
      iterate 3 refine F.qn rfl rfl rfl rfl (r_move rfl) ?_
      refine F.qn rfl rfl rfl rfl (r_indexAddrS Try.underlying83 ti25 rfl hl_v6_1 rfl (rdl_some h32).1 (rdl_some h32).2.1) ?_
      refine F.qn rfl rfl rfl rfl (r_load ta25 rfl (fun w hw => cell_0 (hdr_cells (j := 3) rfl habr h32 hw) rfl)) ?_
      refine F.mn rfl rfl rfl rfl (m_buildRef (i := x7) Try.underlying83 ti25 rfl (rows_len hflr habr h32)) ?_
      rintro v34_1 _ ⟨S34_1, hl_v34_1, rfl⟩
      refine F.efn rfl rfl rfl rfl (d_appendRef (p := 7) (q := 0) (xs := x5) (ys := [x7]) Try.underlying83 Try.underlying83 ti25 rfl (by decide) rfl rfl rfl rfl hs35) ?_
      rintro v35_1 _ ⟨S35_1, rfl, hl_v35_1⟩
      refine F.qn rfl rfl rfl rfl (r_assign rfl) ?_
      refine F.nil ?_
      cases hE_3
      refine Nrm.only [1, 2, 5, 6, 7] rfl ?_
      refine Nrm.pick [4, 5, 6, 7] rfl rfl ?_
      exact hj_2 _ _ ⟨v35_1, S35_1, hl_v35_1, rfl, rfl⟩
     ·replace hE_3 := if_ff g_2 hE_3
      refine Tri.skip ?_
      cases hE_3
      refine Nrm.only [1, 2, 5, 6, 7] rfl ?_
      refine Nrm.pick [3, 4, 5, 6] rfl rfl ?_
      exact hj_2 _ _ ⟨w5, T5, hl_w5, rfl, rfl⟩
   ·replace hE_2 := if_ff g_1 hE_2
    refine Tri.exit ?_
    refine Exi.then ?_
    refine Exi.then ?_
    refine Exi.same ?_
    cases hE_2
    refine Nrm.seq (Tri.seq ?_)
    obtain ⟨hkr, h⟩ := ck h
    refine Tri.reg (l := [0, 1]) rfl ?_
    refine F.qn rfl rfl rfl rfl (r_move rfl) ?_
    refine F.qn rfl rfl rfl rfl (r_assign rfl) ?_
    refine F.nil (Nrm.ex (refJoin (p := 3) (q := 1) (js := [0, 2]) (xs := x5) rfl rfl habr hkr) ?_)
    rintro _ ⟨Sjr, rfl⟩
    refine Nrm.seq (Tri.ret ?_)
    cases h
    exact Rtn.body (.tmp rfl .nil) (fun w hw => ⟨_, _, rfl, ⟨Sjr, (len_map hl_w5), rfl⟩, Sep.pick (is := [0]) rfl rfl hw⟩)
 ·obtain ⟨t12, h12, hE_1⟩ := bind_some hE_1
  obtain ⟨t13, h13, hE_1⟩ := bind_some hE_1
  refine Tri.drawT mixedT Sep.up [1, 2, 3, 4, 0, 5] [6, 7] (.q 1 (.q 2 (.q 3 (.q 4 (.alt 0 (.alt 5 .nil .stop) (.alt 5 (.alt 0 .nil .stop) .stop)))))) (by kernel_rfl) ?_
  refine T.q rfl rfl rfl (wanted_none rfl) (r_fieldAddr tf27_0 rfl) ?_
  refine T.q rfl rfl rfl (wanted_none rfl) (r_load ta3 rfl (fun w hw => cell_1 (box_cells (i := 0) rfl w hw) rfl)) ?_
  refine T.q rfl rfl rfl (wanted_none rfl) (r_move rfl) ?_
  refine T.qc rfl rfl rfl (wanted_none rfl) (q_callF (xs := _) rfl ok119 rfl rfl (fun w hw => spec_l2Many.ok h12 w )) ?_
  refine T.ef rfl rfl rfl (wanted_none rfl) (Makes.does (m_build0 (α := List Int) Try.underlying83 ti25)) (by rintro v8_2 _ ⟨S8_2, hl_v8_2, rfl⟩; exact upd rfl [1] rfl rfl) ?_ ?_
  ·rintro v8_2 _ ⟨S8_2, hl_v8_2, rfl⟩
   refine T.ef rfl rfl rfl (wanted_none rfl) (Makes.does (m_callF (xs := _) rfl ok166 rfl rfl (fun w hw => spec_l9All.ok h13 w ))) (by rintro v13_2 _ ⟨_, ⟨S13_2, hl_v13_2, rfl⟩, rfl⟩; exact upd rfl [2] rfl rfl) ?_ ?_
   ·rintro v13_2 _ ⟨_, ⟨S13_2, hl_v13_2, rfl⟩, rfl⟩
    refine T.nil ?_
    refine F.qn rfl rfl rfl rfl (r_assign rfl) ?_
    refine F.qn rfl rfl rfl rfl (r_assign rfl) ?_
    refine F.nil ?_
    cases hE_1
    refine Nrm.only [1, 2, 5, 6] rfl ?_
    refine Nrm.pick [2, 1, 0] rfl rfl ?_
    exact hj_1 _ _ ⟨v8_2, S8_2, v13_2, S13_2, hl_v8_2, hl_v13_2, rfl, rfl⟩
   exact T.stop
  ·refine T.ef rfl rfl rfl (wanted_none rfl) (Makes.does (m_callF (xs := _) rfl ok166 rfl rfl (fun w hw => spec_l9All.ok h13 w ))) (by rintro v13_3 _ ⟨_, ⟨S13_3, hl_v13_3, rfl⟩, rfl⟩; exact upd rfl [1] rfl rfl) ?_ ?_
   ·rintro v13_3 _ ⟨_, ⟨S13_3, hl_v13_3, rfl⟩, rfl⟩
    refine T.ef rfl rfl rfl (wanted_none rfl) (Makes.does (m_build0 (α := List Int) Try.underlying83 ti25)) (by rintro v8_3 _ ⟨S8_3, hl_v8_3, rfl⟩; exact upd rfl [2] rfl rfl) ?_ ?_
    ·rintro v8_3 _ ⟨S8_3, hl_v8_3, rfl⟩
     refine T.nil ?_
     refine F.qn rfl rfl rfl rfl (r_assign rfl) ?_
     refine F.qn rfl rfl rfl rfl (r_assign rfl) ?_
     refine F.nil ?_
     cases hE_1
     refine Nrm.only [1, 2, 5, 6] rfl ?_
     refine Nrm.pick [2, 0, 1] rfl rfl ?_
     exact hj_1 _ _ ⟨v8_3, S8_3, v13_3, S13_3, hl_v8_3, hl_v13_3, rfl, rfl⟩
    exact T.stop
   exact T.stop


def spec_FirstFilling.f (k : Nat) (a0_0 : Int) (a0_1 : List (Int × Int × Int)) (a0_2 : List Int) (a1 : Int) : Option ((List Int) × Bool) := (spec_l9Few.f k a0_0 a0_1 a0_2 a1).bind fun t9 => (if (!t9) = true then some (([] : List (Int)), false) else (spec_l9Winning.f k a0_0 a0_1 a0_2 a1).bind fun t14 => (if ((t14.length : Int) == 0) = true then some (([] : List (Int)), false) else (rdl (t14 : List (List Int)) 0).bind fun t20 => some (t20, true)))

theorem spec_FirstFilling.ok {k : Nat}  {a0_0 : Int} {a0_1 : List (Int × Int × Int)} {a0_2 : List Int} {a1 : Int} {r0 : List Int} {r1 : Bool} (h : spec_FirstFilling.f k a0_0 a0_1 a0_2 a1 = some (r0, r1)) (w : World) {va0_1 : Value} {va0_2 : Value} (hr_a0_1 : Rd w va0_1 a0_1) (hr_a0_2 : Rd w va0_2 a0_2) :
  Calls Try.prog 13 ([.agg ([.int .i64 a0_0, va0_1, va0_2].toArray), .int .i64 a1] : List Value).toArray w (Post (fun u ns => ∃ (ur0 : Value) (Sr0 : Nat → Prop), u = .tuple #[ur0, .bool r1] ∧ SlLen ur0 r0.length ∧ ns = [R.sl Sr0 ur0 r0]) w) := by
 unfold spec_FirstFilling.f at h
 have hl_va0_1 := hr_a0_1.len
 have hl_va0_2 := hr_a0_2.len
 refine Calls.of_tri (N := 22) Try.func13 rfl rfl rfl (Sep.nil (M := noM)) ?_
 refine Tri.seq (Tri.reg (l := [0, 1, 2]) rfl ?_)
 refine F.mn rfl rfl rfl rfl (m_boxG rfl rfl) ?_
 rintro _ _ ⟨b2_1, rfl, rfl⟩
 refine F.qn rfl rfl rfl rfl (r_assign rfl) ?_
 refine F.qn rfl rfl rfl rfl (r_assign rfl) ?_
 refine F.nil (Nrm.seq (Tri.seq (Tri.seq ?_)))
 obtain ⟨t9, h9, h⟩ := bind_some h
 refine Tri.reg (l := [0, 1, 2, 3]) rfl ?_
 refine F.qn rfl rfl rfl rfl (r_loadA ta27 ti27 rfl rfl (fun w hw => (box_cells (i := 0) rfl w hw))) ?_
 refine F.qn rfl rfl rfl rfl (r_move rfl) ?_
 refine F.qcn rfl rfl rfl rfl (q_callF (xs := _) rfl ok88 rfl rfl (fun w hw => spec_l9Few.ok h9 w ((fun _ hw => hr_a0_1.sep hw) w hw) ((fun _ hw => hr_a0_2.sep hw) w hw))) ?_
 refine F.qn rfl rfl rfl rfl (r_not rfl) ?_
 refine F.nil (Nrm.seq (Tri.cond (b := !t9) rfl (fun g_1 => ?_) (fun g_1 => ?_)))
 ·replace h := if_tt g_1 h
  refine Tri.seq (Tri.reg (l := [0, 1, 2]) rfl ?_)
  refine F.mn rfl rfl rfl rfl (m_build0 (α := Int) Try.underlying25 ti3) ?_
  rintro v11_1 _ ⟨S11_1, hl_v11_1, rfl⟩
  refine F.qn rfl rfl rfl rfl (r_assign rfl) ?_
  refine F.qn rfl rfl rfl rfl (r_assign rfl) ?_
  refine F.nil (Nrm.seq (Tri.ret ?_))
  refine Rtn.then ?_
  cases h
  exact Rtn.body (.tmp rfl (.tmp rfl .nil)) (fun w hw => ⟨_, _, rfl, ⟨v11_1, S11_1, rfl, hl_v11_1, rfl⟩, Sep.pick (is := [0]) rfl rfl hw⟩)
 ·replace h := if_ff g_1 h
  refine Tri.skip (Nrm.seq (Tri.seq ?_))
  obtain ⟨t14, h14, h⟩ := bind_some h
  refine Tri.reg (l := [0, 1, 2, 3]) rfl ?_
  refine F.qn rfl rfl rfl rfl (r_loadA ta27 ti27 rfl rfl (fun w hw => (box_cells (i := 0) rfl w hw))) ?_
  refine F.qn rfl rfl rfl rfl (r_move rfl) ?_
  refine F.mn rfl rfl rfl rfl (m_callF (xs := _) rfl ok89 rfl rfl (fun w hw => spec_l9Winning.ok h14 w ((fun _ hw => hr_a0_1.sep hw) w hw) ((fun _ hw => hr_a0_2.sep hw) w hw))) ?_
  rintro v14_1 _ ⟨_, ⟨S14_1, hl_v14_1, rfl⟩, rfl⟩
  refine F.qn rfl rfl rfl rfl (r_assign rfl) ?_
  refine F.nil (Nrm.seq (Tri.seq (Tri.seq (Tri.reg (l := [0, 1, 2]) rfl ?_))))
  refine F.qn rfl rfl rfl rfl (r_move rfl) ?_
  refine F.qn rfl rfl rfl rfl (r_len Try.underlying83 rfl hl_v14_1) ?_
  refine F.qn rfl rfl rfl rfl (r_eql rfl rfl) ?_
  refine F.nil (Nrm.seq (Tri.cond (b := (t14.length : Int) == 0) rfl (fun g_2 => ?_) (fun g_2 => ?_)))
  ·replace h := if_tt g_2 h
   refine Tri.seq (Tri.reg (l := [0, 1, 2]) rfl ?_)
   refine F.mn rfl rfl rfl rfl (m_build0 (α := Int) Try.underlying25 ti3) ?_
   rintro v18_1 _ ⟨S18_1, hl_v18_1, rfl⟩
   refine F.qn rfl rfl rfl rfl (r_assign rfl) ?_
   refine F.qn rfl rfl rfl rfl (r_assign rfl) ?_
   refine F.nil (Nrm.seq (Tri.ret ?_))
   refine Rtn.then ?_
   cases h
   exact Rtn.body (.tmp rfl (.tmp rfl .nil)) (fun w hw => ⟨_, _, rfl, ⟨v18_1, S18_1, rfl, hl_v18_1, rfl⟩, Sep.pick (is := [0]) rfl rfl hw⟩)
  ·replace h := if_ff g_2 h
   refine Tri.skip (Nrm.seq (Tri.seq ?_))
   obtain ⟨t20, h20, h⟩ := bind_some h
   refine Tri.ex (on25 [0] [1] rfl rfl (rdl_some h20).2.2) ?_
   rintro _ ⟨v20_0_1, S20_0_1, Sr20_1, hl_v20_0_1, hS20_1, rfl⟩
   refine Tri.reg (l := [0, 1, 2, 3, 4]) rfl ?_
   refine F.qn rfl rfl rfl rfl (r_move rfl) ?_
   refine F.qn rfl rfl rfl rfl (r_indexAddrS Try.underlying83 ti25 rfl hl_v14_1 rfl (rdl_some h20).1 (rdl_some h20).2.1) ?_
   refine F.qn rfl rfl rfl rfl (r_load ta25 rfl (fun w hw => cell_0 (hole_cells (p := 1) rfl w hw) rfl)) ?_
   refine F.qn rfl rfl rfl rfl (r_assign rfl) ?_
   refine F.qn rfl rfl rfl rfl (r_assign rfl) ?_
   refine F.nil (Nrm.seq (Tri.ret ?_))
   cases h
   exact Rtn.body (.tmp rfl (.tmp rfl .nil)) (fun w hw => ⟨_, _, rfl, ⟨v20_0_1, S20_0_1, rfl, hl_v20_0_1, rfl⟩, Sep.pick (is := [0]) rfl rfl hw⟩)


def spec_l1Cur_next.f (k : Nat) (a0_0 : List By) (a0_1 : Int) (a0_2 : Int) : Option (Int × Int × Int) := ((if (decide (a0_1 < (a0_0.length : Int))) = true then (rdl a0_0 a0_1).bind fun t22 => some (IntKind.i64.wrap t22.v) else some 0)).bind fun y3 => (if (decide ((w64 (a0_1 + 1)) ≤ (a0_0.length : Int))) = true then some (y3, w64 (a0_1 + 1), wU ((wU ((wU (a0_2 * 6364136223846793005)) + (IntKind.u64.wrap y3))) + 462197)) else some (IntKind.i64.wrap (uand (shr (wU ((wU ((wU (a0_2 * 6364136223846793005)) + (IntKind.u64.wrap y3))) + 462197)) 40) 255), w64 (a0_1 + 1), wU ((wU ((wU (a0_2 * 6364136223846793005)) + (IntKind.u64.wrap y3))) + 462197)))

theorem spec_l1Cur_next.ok {k : Nat}  {a0_0 : List By} {a0_1 : Int} {a0_2 : Int} {r0 : Int} {r1 : Int} {r2 : Int} (h : spec_l1Cur_next.f k a0_0 a0_1 a0_2 = some (r0, r1, r2)) (w : World) {pa0 : Nat} {va0_0 : Value} (hr_a0_0 : RdM w (footM [R.box pa0 100 [va0_0, .int .i64 a0_1, .int .u64 a0_2]]) va0_0 a0_0) (hw0 : Sep w (footM [R.box pa0 100 [va0_0, .int .i64 a0_1, .int .u64 a0_2]]) [R.box pa0 100 [va0_0, .int .i64 a0_1, .int .u64 a0_2]] w) :
  Calls Try.prog 169 ([.pointer (some ⟨pa0, 0, none⟩)] : List Value).toArray w (PostM (footM [R.box pa0 100 [va0_0, .int .i64 a0_1, .int .u64 a0_2]]) (fun u ns => u = .int .i64 r0 ∧ ns = [R.box pa0 100 [va0_0, .int .i64 r1, .int .u64 r2]]) w) := by
 unfold spec_l1Cur_next.f at h
 have hl_va0_0 := hr_a0_0.len
 refine Calls.of_tri (N := 62) Try.func169 rfl rfl rfl hw0 ?_
 refine Tri.seq (Tri.reg (l := [0]) rfl ?_)
 refine F.qn rfl rfl rfl rfl (r_assign rfl) ?_
 refine F.nil (Nrm.seq (Tri.seq (Tri.reg (l := [0]) rfl ?_)))
 refine F.qn rfl rfl rfl rfl (r_assign rfl) ?_
 refine F.nil (Nrm.seq (Tri.seq (Tri.seq (Tri.drawA mixedT Sep.up [(0, true), (1, true), (2, true), (3, true), (4, true), (5, true), (6, true), (7, true), (8, true), (9, true)] [] (by kernel_rfl) ?_))))
 refine S.qn rfl rfl rfl rfl (r_move rfl) ?_
 refine S.qn rfl rfl rfl rfl (r_nilC rfl) ?_
 refine S.qn rfl rfl rfl rfl (r_fieldAddr tf100_1 rfl) ?_
 refine S.qn rfl rfl rfl rfl (r_load ta3 rfl (fun w hw => cell_1 (box_cells (i := 0) rfl w hw) rfl)) ?_
 refine S.qn rfl rfl rfl rfl (r_move rfl) ?_
 refine S.qn rfl rfl rfl rfl (r_nilC rfl) ?_
 refine S.qn rfl rfl rfl rfl (r_fieldAddr tf100_0 rfl) ?_
 refine S.qn rfl rfl rfl rfl (r_load ta22 rfl (fun w hw => cell_1 (box_cells (i := 0) rfl w hw) rfl)) ?_
 refine S.qn rfl rfl rfl rfl (r_len Try.underlying22 rfl hl_va0_0) ?_
 refine S.qn rfl rfl rfl rfl (r_lss rfl rfl) ?_
 refine S.nil (F.nil (Nrm.seq ?_))
 obtain ⟨y3, hE_1, h⟩ := bind_some h
 refine Tri.cut (fun e' C' => e' = [(0, .pointer (some ⟨pa0, 0, none⟩)), (3, .int .i64 y3)] ∧ C' = Sep w (footM [R.box pa0 100 [va0_0, .int .i64 a0_1, .int .u64 a0_2]]) [R.box pa0 100 [va0_0, .int .i64 a0_1, .int .u64 a0_2]]) ?_ (fun hj_1 => ?_)
 ·rintro _ _ ⟨rfl, rfl⟩
  refine Nrm.seq (Tri.seq (Tri.reg (l := [0, 1, 2, 3, 4, 5, 6, 7]) rfl ?_))
  refine F.qn rfl rfl rfl rfl (r_move rfl) ?_
  refine F.qn rfl rfl rfl rfl (r_nilC rfl) ?_
  refine F.qn rfl rfl rfl rfl (r_fieldAddr tf100_1 rfl) ?_
  refine F.qn rfl rfl rfl rfl (r_load ta3 rfl (fun w hw => cell_1 (box_cells (i := 0) rfl w hw) rfl)) ?_
  refine F.qn rfl rfl rfl rfl (r_add rfl rfl) ?_
  refine F.qn rfl rfl rfl rfl (r_nilC rfl) ?_
  refine F.qn rfl rfl rfl rfl (r_fieldAddr tf100_1 rfl) ?_
  refine F.ef0 rfl rfl (wanted_none rfl) (d_storeG1 (i := 0) (cs2 := [.int .i64 (w64 (a0_1 + 1))]) ti3 rfl rfl rfl rfl rfl (Nat.le_of_ble_eq_true rfl) (lf_cons rfl lf_nil)) ?_
  rintro _ _ ⟨rfl, rfl⟩
  refine F.nil (Nrm.seq (Tri.seq (Tri.reg (l := List.range 13) rfl ?_)))
  refine F.qn rfl rfl rfl rfl (r_move rfl) ?_
  refine F.qn rfl rfl rfl rfl (r_move rfl) ?_
  refine F.qn rfl rfl rfl rfl (r_nilC rfl) ?_
  refine F.qn rfl rfl rfl rfl (r_fieldAddr tf100_2 rfl) ?_
  refine F.qn rfl rfl rfl rfl (r_load ta98 rfl (fun w hw => cell_1 (box_cells (i := 0) rfl w hw) rfl)) ?_
  refine F.qn rfl rfl rfl rfl (r_mulU rfl rfl) ?_
  refine F.qn rfl rfl rfl rfl (r_move rfl) ?_
  refine F.qn rfl rfl rfl rfl (r_conv Try.underlying3 Try.underlying98 rfl) ?_
  refine F.qn rfl rfl rfl rfl (r_addU rfl rfl) ?_
  refine F.qn rfl rfl rfl rfl (r_addU rfl rfl) ?_
  refine F.qn rfl rfl rfl rfl (r_nilC rfl) ?_
  refine F.qn rfl rfl rfl rfl (r_fieldAddr tf100_2 rfl) ?_
  refine F.ef0 rfl rfl (wanted_none rfl) (d_storeG1 (i := 0) (cs2 := [.int .u64 (wU ((wU ((wU (a0_2 * 6364136223846793005)) + (IntKind.u64.wrap y3))) + 462197))]) ti98 rfl rfl rfl rfl rfl (Nat.le_of_ble_eq_true rfl) (lf_cons rfl lf_nil)) ?_
  rintro _ _ ⟨rfl, rfl⟩
  refine F.nil (Nrm.seq (Tri.seq (Tri.seq (Tri.drawA mixedT Sep.up [(0, true), (1, true), (2, true), (3, true), (4, true), (5, true), (6, true), (7, true), (8, true), (9, true)] [] (by kernel_rfl) ?_))))
  refine S.qn rfl rfl rfl rfl (r_move rfl) ?_
  refine S.qn rfl rfl rfl rfl (r_nilC rfl) ?_
  refine S.qn rfl rfl rfl rfl (r_fieldAddr tf100_1 rfl) ?_
  refine S.qn rfl rfl rfl rfl (r_load ta3 rfl (fun w hw => cell_1 (box_cells (i := 0) rfl w hw) rfl)) ?_
  refine S.qn rfl rfl rfl rfl (r_move rfl) ?_
  refine S.qn rfl rfl rfl rfl (r_nilC rfl) ?_
  refine S.qn rfl rfl rfl rfl (r_fieldAddr tf100_0 rfl) ?_
  refine S.qn rfl rfl rfl rfl (r_load ta22 rfl (fun w hw => cell_1 (box_cells (i := 0) rfl w hw) rfl)) ?_
  refine S.qn rfl rfl rfl rfl (r_len Try.underlying22 rfl hl_va0_0) ?_
  refine S.qn rfl rfl rfl rfl (r_leq rfl rfl) ?_
  refine S.nil (F.nil (Nrm.seq (Tri.cond (b := decide ((w64 (a0_1 + 1)) ≤ (a0_0.length : Int))) rfl (fun g_2 => ?_) (fun g_2 => ?_))))
  ·replace h := if_tt g_2 h
   refine Tri.seq (Tri.reg (l := [0, 1]) rfl ?_)
   refine F.qn rfl rfl rfl rfl (r_move rfl) ?_
   refine F.qn rfl rfl rfl rfl (r_assign rfl) ?_
   refine F.nil (Nrm.seq (Tri.ret ?_))
   refine Rtn.then ?_
   cases h
   exact Rtn.body (.tmp rfl .nil) (fun w hw => ⟨_, _, rfl, ⟨rfl, rfl⟩, Sep.pick (is := [0]) rfl rfl hw⟩)
  ·replace h := if_ff g_2 h
   refine Tri.skip (Nrm.seq (Tri.seq (Tri.reg (l := [0, 1, 2, 3, 4, 5, 6, 7]) rfl ?_)))
   refine F.qn rfl rfl rfl rfl (r_move rfl) ?_
   refine F.qn rfl rfl rfl rfl (r_nilC rfl) ?_
   refine F.qn rfl rfl rfl rfl (r_fieldAddr tf100_2 rfl) ?_
   refine F.qn rfl rfl rfl rfl (r_load ta98 rfl (fun w hw => cell_1 (box_cells (i := 0) rfl w hw) rfl)) ?_
   refine F.qn rfl rfl rfl rfl (r_shrU rfl rfl (by decide)) ?_
   refine F.qn rfl rfl rfl rfl (r_andU rfl rfl) ?_
   refine F.qn rfl rfl rfl rfl (r_conv Try.underlying98 Try.underlying3 rfl) ?_
   refine F.qn rfl rfl rfl rfl (r_assign rfl) ?_
   refine F.nil (Nrm.seq (Tri.ret ?_))
   cases h
   exact Rtn.body (.tmp rfl .nil) (fun w hw => ⟨_, _, rfl, ⟨rfl, rfl⟩, Sep.pick (is := [0]) rfl rfl hw⟩)
 ·refine Tri.cond (b := decide (a0_1 < (a0_0.length : Int))) rfl (fun g_1 => ?_) (fun g_1 => ?_)
  ·replace hE_1 := if_tt g_1 hE_1
   obtain ⟨t22, h22, hE_1⟩ := bind_some hE_1
   refine Tri.drawA mixedT Sep.up [(0, true), (1, true), (2, true), (3, true), (4, true), (5, true), (6, true), (7, true), (8, true), (9, true), (10, true), (11, true)] [] (by kernel_rfl) ?_
   refine S.qn rfl rfl rfl rfl (r_move rfl) ?_
   refine S.qn rfl rfl rfl rfl (r_nilC rfl) ?_
   refine S.qn rfl rfl rfl rfl (r_fieldAddr tf100_0 rfl) ?_
   refine S.qn rfl rfl rfl rfl (r_load ta22 rfl (fun w hw => cell_1 (box_cells (i := 0) rfl w hw) rfl)) ?_
   refine S.qn rfl rfl rfl rfl (r_move rfl) ?_
   refine S.qn rfl rfl rfl rfl (r_nilC rfl) ?_
   refine S.qn rfl rfl rfl rfl (r_fieldAddr tf100_1 rfl) ?_
   refine S.qn rfl rfl rfl rfl (r_load ta3 rfl (fun w hw => cell_1 (box_cells (i := 0) rfl w hw) rfl)) ?_
   refine S.qn rfl rfl rfl rfl (r_indexAddrS Try.underlying22 ti5 rfl hl_va0_0 rfl (rdl_some h22).1 (rdl_some h22).2.1) ?_
   refine S.qn rfl rfl rfl rfl (r_load ta5 rfl (fun w hw => cell_0 (Rd.flat ((fun _ hw => hr_a0_0.sep hw) w hw) (rdl_some h22).2.2) rfl)) ?_
   refine S.qn rfl rfl rfl rfl (r_conv Try.underlying5 Try.underlying3 rfl) ?_
   refine S.qn rfl rfl rfl rfl (r_assign rfl) ?_
   refine S.nil (F.nil ?_)
   cases hE_1
   refine Nrm.only [0, 3] rfl ?_
   refine Nrm.pick [0] rfl rfl ?_
   exact hj_1 _ _ ⟨rfl, rfl⟩
  ·replace hE_1 := if_ff g_1 hE_1
   refine Tri.skip ?_
   cases hE_1
   refine Nrm.only [0, 3] rfl ?_
   refine Nrm.pick [0] rfl rfl ?_
   exact hj_1 _ _ ⟨rfl, rfl⟩


def spec_l1Cur_pick.f (k : Nat) (a0_0 : List By) (a0_1 : Int) (a0_2 : Int) (a1 : Int) : Option (Int × Int × Int) := (if (decide (a1 ≤ 1)) = true then some (0, a0_1, a0_2) else (spec_l1Cur_next.f k a0_0 a0_1 a0_2).bind fun (t9_1, t9_2, t9_3) => ((if (decide (a1 > 200)) = true then (spec_l1Cur_next.f k a0_0 t9_2 t9_3).bind fun (t15_1, t15_2, t15_3) => some (w64 ((w64 (t9_1 * 256)) + t15_1), t15_2, t15_3) else some (t9_1, t9_2, t9_3))).bind fun (y5, ypa0_1, ypa0_2) => if ¬ a1 = 0 then some (rem y5 a1, ypa0_1, ypa0_2) else none)

theorem spec_l1Cur_pick.ok {k : Nat}  {a0_0 : List By} {a0_1 : Int} {a0_2 : Int} {a1 : Int} {r0 : Int} {r1 : Int} {r2 : Int} (h : spec_l1Cur_pick.f k a0_0 a0_1 a0_2 a1 = some (r0, r1, r2)) (w : World) {pa0 : Nat} {va0_0 : Value} (hr_a0_0 : RdM w (footM [R.box pa0 100 [va0_0, .int .i64 a0_1, .int .u64 a0_2]]) va0_0 a0_0) (hw0 : Sep w (footM [R.box pa0 100 [va0_0, .int .i64 a0_1, .int .u64 a0_2]]) [R.box pa0 100 [va0_0, .int .i64 a0_1, .int .u64 a0_2]] w) :
  Calls Try.prog 95 ([.pointer (some ⟨pa0, 0, none⟩), .int .i64 a1] : List Value).toArray w (PostM (footM [R.box pa0 100 [va0_0, .int .i64 a0_1, .int .u64 a0_2]]) (fun u ns => u = .int .i64 r0 ∧ ns = [R.box pa0 100 [va0_0, .int .i64 r1, .int .u64 r2]]) w) := by
 unfold spec_l1Cur_pick.f at h
 have hl_va0_0 := hr_a0_0.len
 refine Calls.of_tri (N := 20) Try.func95 rfl rfl rfl hw0 ?_
 refine Tri.seq (Tri.reg (l := [0]) rfl ?_)
 refine F.qn rfl rfl rfl rfl (r_assign rfl) ?_
 refine F.nil (Nrm.seq (Tri.seq (Tri.seq (Tri.reg (l := [0, 1]) rfl ?_))))
 refine F.qn rfl rfl rfl rfl (r_move rfl) ?_
 refine F.qn rfl rfl rfl rfl (r_leq rfl rfl) ?_
 refine F.nil (Nrm.seq (Tri.cond (b := decide (a1 ≤ 1)) rfl (fun g_1 => ?_) (fun g_1 => ?_)))
 ·replace h := if_tt g_1 h
  refine Tri.seq (Tri.reg (l := [0]) rfl ?_)
  refine F.qn rfl rfl rfl rfl (r_assign rfl) ?_
  refine F.nil (Nrm.seq (Tri.ret ?_))
  refine Rtn.then ?_
  cases h
  exact Rtn.body (.tmp rfl .nil) (fun w hw => ⟨_, _, rfl, ⟨rfl, rfl⟩, Sep.pick (is := [0]) rfl rfl hw⟩)
 ·replace h := if_ff g_1 h
  refine Tri.skip (Nrm.seq (Tri.seq ?_))
  obtain ⟨⟨t9_1, t9_2, t9_3⟩, h9, h⟩ := bind_some h
  refine Tri.reg (l := [0, 1, 2]) rfl ?_
  refine F.qn rfl rfl rfl rfl (r_move rfl) ?_
  refine F.efn rfl rfl rfl rfl (d_callM (xs := _) (cs := [R.box pa0 100 [va0_0, .int .i64 a0_1, .int .u64 a0_2]]) (rest := []) [0] [] rfl ok169 rfl rfl rfl rfl (fun w hw => spec_l1Cur_next.ok h9 w (hr_a0_0.down hw) (Sep.sub hw))) ?_
  rintro _ _ ⟨_, ⟨rfl, rfl⟩, rfl⟩
  refine F.qn rfl rfl rfl rfl (r_assign rfl) ?_
  refine F.nil (Nrm.seq (Tri.seq (Tri.seq (Tri.reg (l := [0, 1]) rfl ?_))))
  refine F.qn rfl rfl rfl rfl (r_move rfl) ?_
  refine F.qn rfl rfl rfl rfl (r_gtr rfl rfl) ?_
  refine F.nil (Nrm.seq ?_)
  obtain ⟨⟨y5, ypa0_1, ypa0_2⟩, hE_1, h⟩ := bind_some h
  refine Tri.cut (fun e' C' => e' = [(1, .int .i64 a1), (5, .int .i64 y5)] ∧ C' = Sep w (footM [R.box pa0 100 [va0_0, .int .i64 a0_1, .int .u64 a0_2]]) [R.box pa0 100 [va0_0, .int .i64 ypa0_1, .int .u64 ypa0_2]]) ?_ (fun hj_1 => ?_)
  ·rintro _ _ ⟨rfl, rfl⟩
   refine Nrm.seq (Tri.seq ?_)
   obtain ⟨hs19, h⟩ := ck h
   refine Tri.reg (l := [0, 1, 2, 3]) rfl ?_
   refine F.qn rfl rfl rfl rfl (r_move rfl) ?_
   refine F.qn rfl rfl rfl rfl (r_move rfl) ?_
   refine F.qn rfl rfl rfl rfl (r_rem rfl rfl hs19) ?_
   refine F.qn rfl rfl rfl rfl (r_assign rfl) ?_
   refine F.nil (Nrm.seq (Tri.ret ?_))
   cases h
   exact Rtn.body (.tmp rfl .nil) (fun w hw => ⟨_, _, rfl, ⟨rfl, rfl⟩, Sep.pick (is := [0]) rfl rfl hw⟩)
  ·refine Tri.cond (b := decide (a1 > 200)) rfl (fun g_2 => ?_) (fun g_2 => ?_)
   ·replace hE_1 := if_tt g_2 hE_1
    obtain ⟨⟨t15_1, t15_2, t15_3⟩, h15, hE_1⟩ := bind_some hE_1
    refine Tri.reg (l := [0, 1, 2, 3, 4, 5]) rfl ?_
    refine F.qn rfl rfl rfl rfl (r_move rfl) ?_
    refine F.qn rfl rfl rfl rfl (r_mul rfl rfl) ?_
    refine F.qn rfl rfl rfl rfl (r_move rfl) ?_
    refine F.efn rfl rfl rfl rfl (d_callM (xs := _) (cs := [R.box pa0 100 [va0_0, .int .i64 t9_2, .int .u64 t9_3]]) (rest := []) [0] [] rfl ok169 rfl rfl rfl rfl (fun w hw => spec_l1Cur_next.ok h15 w (hr_a0_0.down hw) (Sep.sub hw))) ?_
    rintro _ _ ⟨_, ⟨rfl, rfl⟩, rfl⟩
    refine F.qn rfl rfl rfl rfl (r_add rfl rfl) ?_
    refine F.qn rfl rfl rfl rfl (r_assign rfl) ?_
    refine F.nil ?_
    cases hE_1
    refine Nrm.only [1, 5] rfl ?_
    refine Nrm.pick [0] rfl rfl ?_
    exact hj_1 _ _ ⟨rfl, rfl⟩
   ·replace hE_1 := if_ff g_2 hE_1
    refine Tri.skip ?_
    cases hE_1
    refine Nrm.only [1, 5] rfl ?_
    refine Nrm.pick [0] rfl rfl ?_
    exact hj_1 _ _ ⟨rfl, rfl⟩


def spec_l1Cur_one.f (k : Nat) (a0_0 : List By) (a0_1 : Int) (a0_2 : Int) (a1 : Int) : Option (Bool × Int × Int) := (spec_l1Cur_pick.f k a0_0 a0_1 a0_2 a1).bind fun (t7_1, t7_2, t7_3) => some (t7_1 == 0, t7_2, t7_3)

theorem spec_l1Cur_one.ok {k : Nat}  {a0_0 : List By} {a0_1 : Int} {a0_2 : Int} {a1 : Int} {r0 : Bool} {r1 : Int} {r2 : Int} (h : spec_l1Cur_one.f k a0_0 a0_1 a0_2 a1 = some (r0, r1, r2)) (w : World) {pa0 : Nat} {va0_0 : Value} (hr_a0_0 : RdM w (footM [R.box pa0 100 [va0_0, .int .i64 a0_1, .int .u64 a0_2]]) va0_0 a0_0) (hw0 : Sep w (footM [R.box pa0 100 [va0_0, .int .i64 a0_1, .int .u64 a0_2]]) [R.box pa0 100 [va0_0, .int .i64 a0_1, .int .u64 a0_2]] w) :
  Calls Try.prog 93 ([.pointer (some ⟨pa0, 0, none⟩), .int .i64 a1] : List Value).toArray w (PostM (footM [R.box pa0 100 [va0_0, .int .i64 a0_1, .int .u64 a0_2]]) (fun u ns => u = .bool r0 ∧ ns = [R.box pa0 100 [va0_0, .int .i64 r1, .int .u64 r2]]) w) := by
 unfold spec_l1Cur_one.f at h
 have hl_va0_0 := hr_a0_0.len
 refine Calls.of_tri (N := 9) Try.func93 rfl rfl rfl hw0 ?_
 refine Tri.seq (Tri.reg (l := [0]) rfl ?_)
 refine F.qn rfl rfl rfl rfl (r_assign rfl) ?_
 refine F.nil (Nrm.seq (Tri.seq ?_))
 obtain ⟨⟨t7_1, t7_2, t7_3⟩, h7, h⟩ := bind_some h
 refine Tri.reg (l := [0, 1, 2, 3, 4]) rfl ?_
 refine F.qn rfl rfl rfl rfl (r_move rfl) ?_
 refine F.qn rfl rfl rfl rfl (r_move rfl) ?_
 refine F.efn rfl rfl rfl rfl (d_callM (xs := _) (cs := [R.box pa0 100 [va0_0, .int .i64 a0_1, .int .u64 a0_2]]) (rest := []) [0] [] rfl ok95 rfl rfl rfl rfl (fun w hw => spec_l1Cur_pick.ok h7 w (hr_a0_0.down hw) (Sep.sub hw))) ?_
 rintro _ _ ⟨_, ⟨rfl, rfl⟩, rfl⟩
 refine F.qn rfl rfl rfl rfl (r_eql rfl rfl) ?_
 refine F.qn rfl rfl rfl rfl (r_assign rfl) ?_
 refine F.nil (Nrm.seq (Tri.ret ?_))
 cases h
 exact Rtn.body (.tmp rfl .nil) (fun w hw => ⟨_, _, rfl, ⟨rfl, rfl⟩, Sep.pick (is := [0]) rfl rfl hw⟩)


def spec_l1Cur_among.f (k : Nat) (a0_0 : List By) (a0_1 : Int) (a0_2 : Int) (a1 : List Int) : Option (Int × Int × Int) := (spec_l1Cur_pick.f k a0_0 a0_1 a0_2 (a1.length : Int)).bind fun (t9_1, t9_2, t9_3) => (rdl a1 t9_1).bind fun t10 => some (t10, t9_2, t9_3)

theorem spec_l1Cur_among.ok {k : Nat}  {a0_0 : List By} {a0_1 : Int} {a0_2 : Int} {a1 : List Int} {r0 : Int} {r1 : Int} {r2 : Int} (h : spec_l1Cur_among.f k a0_0 a0_1 a0_2 a1 = some (r0, r1, r2)) (w : World) {pa0 : Nat} {va0_0 : Value} (hr_a0_0 : RdM w (footM [R.box pa0 100 [va0_0, .int .i64 a0_1, .int .u64 a0_2]]) va0_0 a0_0) {va1 : Value} (hr_a1 : RdM w (footM [R.box pa0 100 [va0_0, .int .i64 a0_1, .int .u64 a0_2]]) va1 a1) (hw0 : Sep w (footM [R.box pa0 100 [va0_0, .int .i64 a0_1, .int .u64 a0_2]]) [R.box pa0 100 [va0_0, .int .i64 a0_1, .int .u64 a0_2]] w) :
  Calls Try.prog 96 ([.pointer (some ⟨pa0, 0, none⟩), va1] : List Value).toArray w (PostM (footM [R.box pa0 100 [va0_0, .int .i64 a0_1, .int .u64 a0_2]]) (fun u ns => u = .int .i64 r0 ∧ ns = [R.box pa0 100 [va0_0, .int .i64 r1, .int .u64 r2]]) w) := by
 unfold spec_l1Cur_among.f at h
 have hl_va0_0 := hr_a0_0.len
 have hl_va1 := hr_a1.len
 refine Calls.of_tri (N := 12) Try.func96 rfl rfl rfl hw0 ?_
 refine Tri.seq (Tri.reg (l := [0]) rfl ?_)
 refine F.qn rfl rfl rfl rfl (r_assign rfl) ?_
 refine F.nil (Nrm.seq (Tri.seq ?_))
 obtain ⟨⟨t9_1, t9_2, t9_3⟩, h9, h⟩ := bind_some h
 obtain ⟨t10, h10, h⟩ := bind_some h
 refine Tri.reg (l := [0, 1, 2, 3, 4, 5, 6, 7]) rfl ?_
 iterate 3 refine F.qn rfl rfl rfl rfl (r_move rfl) ?_
 refine F.qn rfl rfl rfl rfl (r_len Try.underlying25 rfl hl_va1) ?_
 refine F.efn rfl rfl rfl rfl (d_callM (xs := _) (cs := [R.box pa0 100 [va0_0, .int .i64 a0_1, .int .u64 a0_2]]) (rest := []) [0] [] rfl ok95 rfl rfl rfl rfl (fun w hw => spec_l1Cur_pick.ok h9 w (hr_a0_0.down hw) (Sep.sub hw))) ?_
 rintro _ _ ⟨_, ⟨rfl, rfl⟩, rfl⟩
 refine F.qn rfl rfl rfl rfl (r_indexAddrS Try.underlying25 ti3 rfl hl_va1 rfl (rdl_some h10).1 (rdl_some h10).2.1) ?_
 refine F.qn rfl rfl rfl rfl (r_load ta3 rfl (fun w hw => cell_0 (Rd.flat ((fun _ hw => hr_a1.sep hw) w hw) (rdl_some h10).2.2) rfl)) ?_
 refine F.qn rfl rfl rfl rfl (r_assign rfl) ?_
 refine F.nil (Nrm.seq (Tri.ret ?_))
 cases h
 exact Rtn.body (.tmp rfl .nil) (fun w hw => ⟨_, _, rfl, ⟨rfl, rfl⟩, Sep.pick (is := [0]) rfl rfl hw⟩)


def spec_l1Cur_colours.l0 (k : Nat) (a0_0 : List By) : Nat → Int → Int → Int → Int → Option (Int × Int × Int)
 | 0, _, _, _, _ => none
 | n + 1, x3, x4, xpa0_1, xpa0_2 => (if (decide (x4 > 0)) = true then (spec_l1Cur_pick.f k a0_0 xpa0_1 xpa0_2 6).bind fun (t18_1, t18_2, t18_3) => if ¬ t18_1 < 0 then spec_l1Cur_colours.l0 k a0_0 n (bor x3 (shl 1 t18_1)) (w64 (x4 - 1)) t18_2 t18_3 else none else some (x3, xpa0_1, xpa0_2))

def spec_l1Cur_colours.f (k : Nat) (a0_0 : List By) (a0_1 : Int) (a0_2 : Int) : Option (Int × Int × Int) := (spec_l1Cur_one.f k a0_0 a0_1 a0_2 30).bind fun (t6_1, t6_2, t6_3) => (if t6_1 = true then (spec_l1Cur_among.f k a0_0 t6_2 t6_3 ([63, 64, (-1), 4611686018427387904] : List (Int))).bind fun (t9_1, t9_2, t9_3) => some (t9_1, t9_2, t9_3) else (spec_l1Cur_pick.f k a0_0 t6_2 t6_3 4).bind fun (t11_1, t11_2, t11_3) => (spec_l1Cur_colours.l0 k a0_0 k 0 t11_1 t11_2 t11_3).bind fun (x3, xpa0_1, xpa0_2) => some (x3, xpa0_1, xpa0_2))

theorem spec_l1Cur_colours.ok {k : Nat}  {a0_0 : List By} {a0_1 : Int} {a0_2 : Int} {r0 : Int} {r1 : Int} {r2 : Int} (h : spec_l1Cur_colours.f k a0_0 a0_1 a0_2 = some (r0, r1, r2)) (w : World) {pa0 : Nat} {va0_0 : Value} (hr_a0_0 : RdM w (footM [R.box pa0 100 [va0_0, .int .i64 a0_1, .int .u64 a0_2]]) va0_0 a0_0) (hw0 : Sep w (footM [R.box pa0 100 [va0_0, .int .i64 a0_1, .int .u64 a0_2]]) [R.box pa0 100 [va0_0, .int .i64 a0_1, .int .u64 a0_2]] w) :
  Calls Try.prog 134 ([.pointer (some ⟨pa0, 0, none⟩)] : List Value).toArray w (PostM (footM [R.box pa0 100 [va0_0, .int .i64 a0_1, .int .u64 a0_2]]) (fun u ns => u = .int .i64 r0 ∧ ns = [R.box pa0 100 [va0_0, .int .i64 r1, .int .u64 r2]]) w) := by
 unfold spec_l1Cur_colours.f at h
 have hl_va0_0 := hr_a0_0.len
 refine Calls.of_tri (N := 22) Try.func134 rfl rfl rfl hw0 ?_
 refine Tri.seq (Tri.reg (l := [0]) rfl ?_)
 refine F.qn rfl rfl rfl rfl (r_assign rfl) ?_
 refine F.nil (Nrm.seq (Tri.seq (Tri.seq ?_)))
 obtain ⟨⟨t6_1, t6_2, t6_3⟩, h6, h⟩ := bind_some h
 refine Tri.reg (l := [0, 1]) rfl ?_
 refine F.qn rfl rfl rfl rfl (r_move rfl) ?_
 refine F.efn rfl rfl rfl rfl (d_callM (xs := _) (cs := [R.box pa0 100 [va0_0, .int .i64 a0_1, .int .u64 a0_2]]) (rest := []) [0] [] rfl ok93 rfl rfl rfl rfl (fun w hw => spec_l1Cur_one.ok h6 w (hr_a0_0.down hw) (Sep.sub hw))) ?_
 rintro _ _ ⟨_, ⟨rfl, rfl⟩, rfl⟩
 refine F.nil (Nrm.seq (Tri.cond (b := t6_1) rfl (fun g_1 => ?_) (fun g_1 => ?_)))
 ·replace h := if_tt g_1 h
  refine Tri.seq ?_
  obtain ⟨⟨t9_1, t9_2, t9_3⟩, h9, h⟩ := bind_some h
  refine Tri.reg (l := [0, 1, 2, 3]) rfl ?_
  refine F.qn rfl rfl rfl rfl (r_move rfl) ?_
  refine F.mn rfl rfl rfl rfl (m_buildF (l := ([63, 64, (-1), 4611686018427387904] : List (Int))) Try.underlying25 ti3 rfl rfl rfl rfl rfl) ?_
  rintro v8_1 _ ⟨S8_1, hl_v8_1, rfl⟩
  refine F.efn rfl rfl rfl rfl (d_callM (xs := _) (cs := [R.box pa0 100 [va0_0, .int .i64 t6_2, .int .u64 t6_3]]) (rest := [R.sl S8_1 v8_1 (([63, 64, (-1), 4611686018427387904] : List (Int)) : List (Int))]) [1] [0] rfl ok96 rfl rfl rfl rfl (fun w hw => spec_l1Cur_among.ok h9 w (hr_a0_0.down hw) (rdm_sl (i := 0) rfl hw) (Sep.sub hw))) ?_
  rintro _ _ ⟨_, ⟨rfl, rfl⟩, rfl⟩
  refine F.qn rfl rfl rfl rfl (r_assign rfl) ?_
  refine F.nil (Nrm.seq (Tri.ret ?_))
  refine Rtn.then ?_
  cases h
  exact Rtn.body (.tmp rfl .nil) (fun w hw => ⟨_, _, rfl, ⟨rfl, rfl⟩, Sep.pick (is := [0]) rfl rfl hw⟩)
 ·replace h := if_ff g_1 h
  refine Tri.skip (Nrm.seq (Tri.seq (Tri.reg (l := [0]) rfl ?_)))
  refine F.qn rfl rfl rfl rfl (r_assign rfl) ?_
  refine F.nil (Nrm.seq (Tri.seq (Tri.seq ?_)))
  obtain ⟨⟨t11_1, t11_2, t11_3⟩, h11, h⟩ := bind_some h
  refine Tri.reg (l := [0, 1, 2]) rfl ?_
  refine F.qn rfl rfl rfl rfl (r_move rfl) ?_
  refine F.efn rfl rfl rfl rfl (d_callM (xs := _) (cs := [R.box pa0 100 [va0_0, .int .i64 t6_2, .int .u64 t6_3]]) (rest := []) [0] [] rfl ok95 rfl rfl rfl rfl (fun w hw => spec_l1Cur_pick.ok h11 w (hr_a0_0.down hw) (Sep.sub hw))) ?_
  rintro _ _ ⟨_, ⟨rfl, rfl⟩, rfl⟩
  refine F.qn rfl rfl rfl rfl (r_assign rfl) ?_
  refine F.nil (Nrm.seq ?_)
  obtain ⟨⟨x3, xpa0_1, xpa0_2⟩, hE_1, h⟩ := bind_some h
  refine Tri.block ?_
  refine Tri.only [0, 3, 4] rfl ?_
  refine Tri.pick [0] rfl rfl ?_
  refine Tri.rounds (fun n e' C' => ∃ (x3' : Int) (x4' : Int) (xpa0_1' : Int) (xpa0_2' : Int), spec_l1Cur_colours.l0 k a0_0 n x3' x4' xpa0_1' xpa0_2' = some (x3, xpa0_1, xpa0_2) ∧ e' = [(0, .pointer (some ⟨pa0, 0, none⟩)), (3, .int .i64 x3'), (4, .int .i64 x4')] ∧ C' = Sep w (footM [R.box pa0 100 [va0_0, .int .i64 a0_1, .int .u64 a0_2]]) [R.box pa0 100 [va0_0, .int .i64 xpa0_1', .int .u64 xpa0_2']]) k ?_ ?_ ?_
  ·exact ⟨0, t11_1, t11_2, t11_3, hE_1, rfl, rfl⟩
  ·rintro _ _ ⟨_, _, _, _, hE_1, _⟩
   rw [spec_l1Cur_colours.l0.eq_1] at hE_1; cases hE_1
  ·rintro n_1 _ _ ⟨x3, x4, xpa0_1, xpa0_2, hE_1, rfl, rfl⟩ ih_1
   rw [spec_l1Cur_colours.l0.eq_2] at hE_1
   refine Tri.seq (Tri.seq (Tri.reg (l := [0, 1]) rfl ?_))
   refine F.qn rfl rfl rfl rfl (r_move rfl) ?_
   refine F.qn rfl rfl rfl rfl (r_gtr rfl rfl) ?_
   refine F.nil (Nrm.seq (Tri.cond (b := decide (x4 > 0)) rfl (fun g_2 => ?_) (fun g_2 => ?_)))
   ·replace hE_1 := if_tt g_2 hE_1
    refine Tri.skip (Nrm.seq (Tri.seq (Tri.block ?_)))
    obtain ⟨⟨t18_1, t18_2, t18_3⟩, h18, hE_1⟩ := bind_some hE_1
    obtain ⟨hs19, hE_1⟩ := ck hE_1
    refine Tri.reg (l := [0, 1, 2, 3, 4, 5]) rfl ?_
    refine F.qn rfl rfl rfl rfl (r_move rfl) ?_
    refine F.qn rfl rfl rfl rfl (r_move rfl) ?_
    refine F.efn rfl rfl rfl rfl (d_callM (xs := _) (cs := [R.box pa0 100 [va0_0, .int .i64 xpa0_1, .int .u64 xpa0_2]]) (rest := []) [0] [] rfl ok95 rfl rfl rfl rfl (fun w hw => spec_l1Cur_pick.ok h18 w (hr_a0_0.down hw) (Sep.sub hw))) ?_
    rintro _ _ ⟨_, ⟨rfl, rfl⟩, rfl⟩
    refine F.qn rfl rfl rfl rfl (r_shl rfl rfl hs19) ?_
    refine F.qn rfl rfl rfl rfl (r_or rfl rfl) ?_
    refine F.qn rfl rfl rfl rfl (r_assign rfl) ?_
    refine F.nil (Nrm.block ?_)
    refine Nrm.seq (Tri.reg (l := [0, 1, 2]) rfl ?_)
    refine F.qn rfl rfl rfl rfl (r_move rfl) ?_
    refine F.qn rfl rfl rfl rfl (r_sub rfl rfl) ?_
    refine F.qn rfl rfl rfl rfl (r_assign rfl) ?_
    refine F.nil (Nrm.round ?_)
    refine Rnd.only [0, 3, 4] rfl ?_
    refine Rnd.pick [0] rfl rfl ?_
    exact ih_1 _ _ ⟨bor x3 (shl 1 t18_1), w64 (x4 - 1), t18_2, t18_3, hE_1, rfl, rfl⟩
   ·replace hE_1 := if_ff g_2 hE_1
    refine Tri.exit ?_
    refine Exi.then ?_
    refine Exi.then ?_
    refine Exi.same ?_
    cases hE_1
    refine Nrm.seq (Tri.seq (Tri.reg (l := [0, 1]) rfl ?_))
    refine F.qn rfl rfl rfl rfl (r_move rfl) ?_
    refine F.qn rfl rfl rfl rfl (r_assign rfl) ?_
    refine F.nil (Nrm.seq (Tri.ret ?_))
    cases h
    exact Rtn.body (.tmp rfl .nil) (fun w hw => ⟨_, _, rfl, ⟨rfl, rfl⟩, Sep.pick (is := [0]) rfl rfl hw⟩)


def spec_l1Cur_few.l0 (k : Nat) (a0_0 : List By) (a1 : Int) : Nat → Int → Int → Int → Int → Option (Int × Int × Int)
 | 0, _, _, _, _ => none
 | n + 1, x5, x6, xpa0_1, xpa0_2 => (if (decide (x6 > 0)) = true then (spec_l1Cur_pick.f k a0_0 xpa0_1 xpa0_2 a1).bind fun (t17_1, t17_2, t17_3) => if ¬ t17_1 < 0 then spec_l1Cur_few.l0 k a0_0 a1 n (bor x5 (shl 1 t17_1)) (w64 (x6 - 1)) t17_2 t17_3 else none else some (x5, xpa0_1, xpa0_2))

def spec_l1Cur_few.f (k : Nat) (a0_0 : List By) (a0_1 : Int) (a0_2 : Int) (a1 : Int) : Option (Int × Int × Int) := (spec_l1Cur_among.f k a0_0 a0_1 a0_2 ([0, 1, 1, 1, 2] : List (Int))).bind fun (t9_1, t9_2, t9_3) => (spec_l1Cur_few.l0 k a0_0 a1 k 0 t9_1 t9_2 t9_3).bind fun (x5, xpa0_1, xpa0_2) => some (x5, xpa0_1, xpa0_2)

theorem spec_l1Cur_few.ok {k : Nat}  {a0_0 : List By} {a0_1 : Int} {a0_2 : Int} {a1 : Int} {r0 : Int} {r1 : Int} {r2 : Int} (h : spec_l1Cur_few.f k a0_0 a0_1 a0_2 a1 = some (r0, r1, r2)) (w : World) {pa0 : Nat} {va0_0 : Value} (hr_a0_0 : RdM w (footM [R.box pa0 100 [va0_0, .int .i64 a0_1, .int .u64 a0_2]]) va0_0 a0_0) (hw0 : Sep w (footM [R.box pa0 100 [va0_0, .int .i64 a0_1, .int .u64 a0_2]]) [R.box pa0 100 [va0_0, .int .i64 a0_1, .int .u64 a0_2]] w) :
  Calls Try.prog 205 ([.pointer (some ⟨pa0, 0, none⟩), .int .i64 a1] : List Value).toArray w (PostM (footM [R.box pa0 100 [va0_0, .int .i64 a0_1, .int .u64 a0_2]]) (fun u ns => u = .int .i64 r0 ∧ ns = [R.box pa0 100 [va0_0, .int .i64 r1, .int .u64 r2]]) w) := by
 unfold spec_l1Cur_few.f at h
 have hl_va0_0 := hr_a0_0.len
 refine Calls.of_tri (N := 21) Try.func205 rfl rfl rfl hw0 ?_
 refine Tri.seq (Tri.reg (l := [0]) rfl ?_)
 refine F.qn rfl rfl rfl rfl (r_assign rfl) ?_
 refine F.nil (Nrm.seq (Tri.seq (Tri.reg (l := [0]) rfl ?_)))
 refine F.qn rfl rfl rfl rfl (r_assign rfl) ?_
 refine F.nil (Nrm.seq (Tri.seq (Tri.seq ?_)))
 obtain ⟨⟨t9_1, t9_2, t9_3⟩, h9, h⟩ := bind_some h
 refine Tri.reg (l := [0, 1, 2, 3]) rfl ?_
 refine F.qn rfl rfl rfl rfl (r_move rfl) ?_
 refine F.mn rfl rfl rfl rfl (m_buildF (l := ([0, 1, 1, 1, 2] : List (Int))) Try.underlying25 ti3 rfl rfl rfl rfl rfl) ?_
 rintro v8_1 _ ⟨S8_1, hl_v8_1, rfl⟩
 refine F.efn rfl rfl rfl rfl (d_callM (xs := _) (cs := [R.box pa0 100 [va0_0, .int .i64 a0_1, .int .u64 a0_2]]) (rest := [R.sl S8_1 v8_1 (([0, 1, 1, 1, 2] : List (Int)) : List (Int))]) [1] [0] rfl ok96 rfl rfl rfl rfl (fun w hw => spec_l1Cur_among.ok h9 w (hr_a0_0.down hw) (rdm_sl (i := 0) rfl hw) (Sep.sub hw))) ?_
 rintro _ _ ⟨_, ⟨rfl, rfl⟩, rfl⟩
 refine F.qn rfl rfl rfl rfl (r_assign rfl) ?_
 refine F.nil (Nrm.seq ?_)
 obtain ⟨⟨x5, xpa0_1, xpa0_2⟩, hE_1, h⟩ := bind_some h
 refine Tri.block ?_
 refine Tri.only [0, 1, 5, 6] rfl ?_
 refine Tri.pick [0] rfl rfl ?_
 refine Tri.rounds (fun n e' C' => ∃ (x5' : Int) (x6' : Int) (xpa0_1' : Int) (xpa0_2' : Int), spec_l1Cur_few.l0 k a0_0 a1 n x5' x6' xpa0_1' xpa0_2' = some (x5, xpa0_1, xpa0_2) ∧ e' = [(0, .pointer (some ⟨pa0, 0, none⟩)), (1, .int .i64 a1), (5, .int .i64 x5'), (6, .int .i64 x6')] ∧ C' = Sep w (footM [R.box pa0 100 [va0_0, .int .i64 a0_1, .int .u64 a0_2]]) [R.box pa0 100 [va0_0, .int .i64 xpa0_1', .int .u64 xpa0_2']]) k ?_ ?_ ?_
 ·exact ⟨0, t9_1, t9_2, t9_3, hE_1, rfl, rfl⟩
 ·rintro _ _ ⟨_, _, _, _, hE_1, _⟩
  rw [spec_l1Cur_few.l0.eq_1] at hE_1; cases hE_1
 ·rintro n_1 _ _ ⟨x5, x6, xpa0_1, xpa0_2, hE_1, rfl, rfl⟩ ih_1
  rw [spec_l1Cur_few.l0.eq_2] at hE_1
  refine Tri.seq (Tri.seq (Tri.reg (l := [0, 1]) rfl ?_))
  refine F.qn rfl rfl rfl rfl (r_move rfl) ?_
  refine F.qn rfl rfl rfl rfl (r_gtr rfl rfl) ?_
  refine F.nil (Nrm.seq (Tri.cond (b := decide (x6 > 0)) rfl (fun g_1 => ?_) (fun g_1 => ?_)))
  ·replace hE_1 := if_tt g_1 hE_1
   refine Tri.skip (Nrm.seq (Tri.seq (Tri.block ?_)))
   obtain ⟨⟨t17_1, t17_2, t17_3⟩, h17, hE_1⟩ := bind_some hE_1
   obtain ⟨hs18, hE_1⟩ := ck hE_1
   refine Tri.reg (l := [0, 1, 2, 3, 4, 5, 6]) rfl ?_
   iterate 3 refine F.qn rfl rfl rfl rfl (r_move rfl) ?_
   refine F.efn rfl rfl rfl rfl (d_callM (xs := _) (cs := [R.box pa0 100 [va0_0, .int .i64 xpa0_1, .int .u64 xpa0_2]]) (rest := []) [0] [] rfl ok95 rfl rfl rfl rfl (fun w hw => spec_l1Cur_pick.ok h17 w (hr_a0_0.down hw) (Sep.sub hw))) ?_
   rintro _ _ ⟨_, ⟨rfl, rfl⟩, rfl⟩
   refine F.qn rfl rfl rfl rfl (r_shl rfl rfl hs18) ?_
   refine F.qn rfl rfl rfl rfl (r_or rfl rfl) ?_
   refine F.qn rfl rfl rfl rfl (r_assign rfl) ?_
   refine F.nil (Nrm.block ?_)
   refine Nrm.seq (Tri.reg (l := [0, 1, 2]) rfl ?_)
   refine F.qn rfl rfl rfl rfl (r_move rfl) ?_
   refine F.qn rfl rfl rfl rfl (r_sub rfl rfl) ?_
   refine F.qn rfl rfl rfl rfl (r_assign rfl) ?_
   refine F.nil (Nrm.round ?_)
   refine Rnd.only [0, 1, 5, 6] rfl ?_
   refine Rnd.pick [0] rfl rfl ?_
   exact ih_1 _ _ ⟨bor x5 (shl 1 t17_1), w64 (x6 - 1), t17_2, t17_3, hE_1, rfl, rfl⟩
  ·replace hE_1 := if_ff g_1 hE_1
   refine Tri.exit ?_
   refine Exi.then ?_
   refine Exi.then ?_
   refine Exi.same ?_
   cases hE_1
   refine Nrm.seq (Tri.seq (Tri.reg (l := [0, 1]) rfl ?_))
   refine F.qn rfl rfl rfl rfl (r_move rfl) ?_
   refine F.qn rfl rfl rfl rfl (r_assign rfl) ?_
   refine F.nil (Nrm.seq (Tri.ret ?_))
   cases h
   exact Rtn.body (.tmp rfl .nil) (fun w hw => ⟨_, _, rfl, ⟨rfl, rfl⟩, Sep.pick (is := [0]) rfl rfl hw⟩)


def spec_l1Most.f (k : Nat) (a0 : Int) (a1 : Int) : Option (Int) := (if (decide (a0 > a1)) = true then some a0 else some a1)

theorem spec_l1Most.ok {k : Nat}  {a0 : Int} {a1 : Int} {r0 : Int} (h : spec_l1Most.f k a0 a1 = some r0) (w : World) :
  Calls Try.prog 180 ([.int .i64 a0, .int .i64 a1] : List Value).toArray w (fun e w' => e = .returned (.int .i64 r0) ∧ Ext w w') := by
 unfold spec_l1Most.f at h
 refine Calls.of_tri (N := 10) Try.func180 rfl rfl rfl (Sep.nil (M := noM)) ?_
 refine Tri.seq (Tri.reg (l := [0]) rfl ?_)
 refine F.qn rfl rfl rfl rfl (r_assign rfl) ?_
 refine F.nil (Nrm.seq (Tri.seq (Tri.seq (Tri.reg (l := [0, 1, 2]) rfl ?_))))
 refine F.qn rfl rfl rfl rfl (r_move rfl) ?_
 refine F.qn rfl rfl rfl rfl (r_move rfl) ?_
 refine F.qn rfl rfl rfl rfl (r_gtr rfl rfl) ?_
 refine F.nil (Nrm.seq (Tri.cond (b := decide (a0 > a1)) rfl (fun g_1 => ?_) (fun g_1 => ?_)))
 ·replace h := if_tt g_1 h
  refine Tri.seq (Tri.reg (l := [0, 1]) rfl ?_)
  refine F.qn rfl rfl rfl rfl (r_move rfl) ?_
  refine F.qn rfl rfl rfl rfl (r_assign rfl) ?_
  refine F.nil (Nrm.seq (Tri.ret ?_))
  refine Rtn.then ?_
  cases h
  exact Rtn.body (.tmp rfl .nil) (fun w hw => ⟨rfl, hw.ext⟩)
 ·replace h := if_ff g_1 h
  refine Tri.skip (Nrm.seq (Tri.seq (Tri.reg (l := [0, 1]) rfl ?_)))
  refine F.qn rfl rfl rfl rfl (r_move rfl) ?_
  refine F.qn rfl rfl rfl rfl (r_assign rfl) ?_
  refine F.nil (Nrm.seq (Tri.ret ?_))
  cases h
  exact Rtn.body (.tmp rfl .nil) (fun w hw => ⟨rfl, hw.ext⟩)


def spec_l1Least.f (k : Nat) (a0 : Int) (a1 : Int) : Option (Int) := (if (decide (a0 < a1)) = true then some a0 else some a1)

theorem spec_l1Least.ok {k : Nat}  {a0 : Int} {a1 : Int} {r0 : Int} (h : spec_l1Least.f k a0 a1 = some r0) (w : World) :
  Calls Try.prog 181 ([.int .i64 a0, .int .i64 a1] : List Value).toArray w (fun e w' => e = .returned (.int .i64 r0) ∧ Ext w w') := by
 unfold spec_l1Least.f at h
 refine Calls.of_tri (N := 10) Try.func181 rfl rfl rfl (Sep.nil (M := noM)) ?_
 refine Tri.seq (Tri.reg (l := [0]) rfl ?_)
 refine F.qn rfl rfl rfl rfl (r_assign rfl) ?_
 refine F.nil (Nrm.seq (Tri.seq (Tri.seq (Tri.reg (l := [0, 1, 2]) rfl ?_))))
 refine F.qn rfl rfl rfl rfl (r_move rfl) ?_
 refine F.qn rfl rfl rfl rfl (r_move rfl) ?_
 refine F.qn rfl rfl rfl rfl (r_lss rfl rfl) ?_
 refine F.nil (Nrm.seq (Tri.cond (b := decide (a0 < a1)) rfl (fun g_1 => ?_) (fun g_1 => ?_)))
 ·replace h := if_tt g_1 h
  refine Tri.seq (Tri.reg (l := [0, 1]) rfl ?_)
  refine F.qn rfl rfl rfl rfl (r_move rfl) ?_
  refine F.qn rfl rfl rfl rfl (r_assign rfl) ?_
  refine F.nil (Nrm.seq (Tri.ret ?_))
  refine Rtn.then ?_
  cases h
  exact Rtn.body (.tmp rfl .nil) (fun w hw => ⟨rfl, hw.ext⟩)
 ·replace h := if_ff g_1 h
  refine Tri.skip (Nrm.seq (Tri.seq (Tri.reg (l := [0, 1]) rfl ?_)))
  refine F.qn rfl rfl rfl rfl (r_move rfl) ?_
  refine F.qn rfl rfl rfl rfl (r_assign rfl) ?_
  refine F.nil (Nrm.seq (Tri.ret ?_))
  cases h
  exact Rtn.body (.tmp rfl .nil) (fun w hw => ⟨rfl, hw.ext⟩)

end Go.Proofs
