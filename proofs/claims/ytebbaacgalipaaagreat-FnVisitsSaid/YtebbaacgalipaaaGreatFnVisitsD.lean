/- A part of the proof of FnVisits: what the functions of the program compute, walked on the model. No condition. -/
import Derived.Test.YtebbaacgalipaaaGreatFnVisitsC
set_option linter.unusedSimpArgs false
/- loop.example/g01158/spec.l2Maze -/
namespace Go.Proofs
open Go Go.Ga
set_option linter.unusedVariables false
set_option maxRecDepth 100000
set_option maxHeartbeats 4000000
def spec_l2Maze.l1 (k : Nat) (a0_0 : Int) (a0_2 : List Int) : Nat → Int → Option ((Unit) ⊕ (Bool))
 | 0, _ => none
 | n + 1, x5 => (if (decide (x5 < a0_0)) = true then (rdl a0_2 x5).bind fun t85 => (spec_l2Set.f k t85).bind fun t87 => (if (!t87) = true then some (Sum.inr false) else spec_l2Maze.l1 k a0_0 a0_2 n (w64 (x5 + 1))) else some (Sum.inl ()))

def spec_l2Maze.l0 (k : Nat) (a0_0 : Int) (a0_1 : List (Int × Int × Int)) : Nat → Int → Option ((Unit) ⊕ (Bool))
 | 0, _ => none
 | n + 1, x3 => (if (decide (x3 < (a0_1.length : Int))) = true then (rdl a0_1 x3).bind fun t34 => ((spec_l1In.f k t34.1 0 (w64 (a0_0 - 1))).bind fun t41 => (if (!t41) = true then some true else (spec_l1In.f k t34.2.1 (w64 (t34.1 + 1)) (w64 (a0_0 - 1))).bind fun t52 => (if (!t52) = true then some true else (spec_l2Set.f k t34.2.2).bind fun t58 => (if (!t58) = true then some true else (if (decide (x3 > 0)) = true then (rdl a0_1 (w64 (x3 - 1))).bind fun t69 => (spec_l2Before.f k t69.1 t69.2.1 t69.2.2 t34.1 t34.2.1 t34.2.2).bind fun t72 => some (!t72) else some false))))).bind fun y75 => (if y75 = true then some (Sum.inr false) else spec_l2Maze.l0 k a0_0 a0_1 n (w64 (x3 + 1))) else some (Sum.inl ()))

def spec_l2Maze.f (k : Nat) (a0_0 : Int) (a0_1 : List (Int × Int × Int)) (a0_2 : List Int) : Option (Bool) := ((spec_l1In.f k a0_0 1 12).bind fun t8 => (if (!t8) = true then some true else (if (decide ((a0_1.length : Int) > 30)) = true then some true else some ((a0_2.length : Int) != a0_0)))).bind fun y23 => (if y23 = true then some false else (spec_l2Maze.l0 k a0_0 a0_1 k 0).bind fun s => Lr s some fun _ => (spec_l2Maze.l1 k a0_0 a0_2 k 0).bind fun s => Lr s some fun _ => some true)

theorem spec_l2Maze.ok {k : Nat}  {a0_0 : Int} {a0_1 : List (Int × Int × Int)} {a0_2 : List Int} {r0 : Bool} (h : spec_l2Maze.f k a0_0 a0_1 a0_2 = some r0) (w : World) {va0_1 : Value} {va0_2 : Value} (hr_a0_1 : Rd w va0_1 a0_1) (hr_a0_2 : Rd w va0_2 a0_2) :
  Calls Tryz.prog 108 ([.agg ([.int .i64 a0_0, va0_1, va0_2].toArray)] : List Value).toArray w (fun e w' => e = .returned (.bool r0) ∧ Ext w w') := by
 unfold spec_l2Maze.f at h
 have hl_va0_1 := hr_a0_1.len
 have hl_va0_2 := hr_a0_2.len
 refine Calls.of_tri (N := 89) Tryz.func108 rfl rfl rfl (Sep.nil (M := noM)) ?_
 refine Tri.seq (Tri.reg (l := [0, 1]) rfl ?_)
 refine F.mn rfl (m_boxG rfl rfl) ?_
 rintro _ _ ⟨b1_1, rfl, rfl⟩
 refine F.qn rfl (r_assign rfl) (F.nil (Nrm.seq (Tri.seq (Tri.seq ?_))))
 obtain ⟨y23, hE_1, h⟩ := bind_some h
 refine Tri.cut (fun e' C' => e' = [(1, .pointer (some ⟨b1_1, 0, none⟩)), (23, .bool y23)] ∧ C' = Sep w noM [R.box b1_1 27 [.int .i64 a0_0, va0_1, va0_2]]) ?_ (fun hj_1 => ?_)
 ·rintro _ _ ⟨rfl, rfl⟩
  refine Nrm.seq (Tri.cond (b := y23) rfl (fun g_1 => ?_) (fun g_1 => ?_))
  ·replace h := if_tt g_1 h
   refine Tri.seq (Tri.reg (l := [0]) rfl ?_)
   refine F.qn rfl (r_assign rfl) (F.nil (Nrm.seq (Tri.ret ?_)))
   refine Rtn.then ?_
   cases h
   exact Rtn.body (.tmp rfl .nil) (fun w hw => ⟨rfl, hw.ext⟩)
  ·replace h := if_ff g_1 h
   refine Tri.skip (Nrm.seq (Tri.seq (Tri.seq (Tri.reg (l := [0]) rfl ?_))))
   refine F.qn rfl (r_assign rfl) (F.nil (Nrm.seq ?_))
   obtain ⟨s0, hE_2, h⟩ := bind_some h
   refine Tri.block ?_
   refine Tri.only [1, 3] rfl ?_
   refine Tri.pick [0] rfl rfl ?_
   refine Tri.rounds (fun n e' C' => ∃ (x3' : Int), spec_l2Maze.l0 k a0_0 a0_1 n x3' = some s0 ∧ e' = [(1, .pointer (some ⟨b1_1, 0, none⟩)), (3, .int .i64 x3')] ∧ C' = Sep w noM [R.box b1_1 27 [.int .i64 a0_0, va0_1, va0_2]]) k ?_ ?_ ?_
   ·exact ⟨0, hE_2, rfl, rfl⟩
   ·rintro _ _ ⟨_, hE_2, _⟩
    rw [spec_l2Maze.l0.eq_1] at hE_2; cases hE_2
   ·rintro n_1 _ _ ⟨x3, hE_2, rfl, rfl⟩ ih_1
    rw [spec_l2Maze.l0.eq_2] at hE_2
    refine Tri.seq (Tri.seq (Tri.reg (l := [0, 1, 2, 3, 4]) rfl ?_))
    refine F.qn rfl (r_move rfl) (F.qn rfl (r_fieldAddr tf27_1 rfl) (F.qn rfl (r_load ta24 rfl (fun w hw => cell_1 (box_cells (i := 0) rfl w hw) rfl)) (F.qn rfl (r_len Tryz.underlying24 rfl hl_va0_1) (F.qn rfl (r_lss rfl rfl) (F.nil (Nrm.seq (Tri.cond (b := decide (x3 < (a0_1.length : Int))) rfl (fun g_2 => ?_) (fun g_2 => ?_))))))))
    ·replace hE_2 := if_tt g_2 hE_2
     refine Tri.skip (Nrm.seq (Tri.seq (Tri.block ?_)))
     refine Tri.seq ?_
     obtain ⟨t34, h34, hE_2⟩ := bind_some hE_2
     refine Tri.reg (l := [0, 1, 2, 3, 4, 5, 6]) rfl ?_
     refine F.qn rfl (r_fieldAddr tf27_1 rfl) (F.qn rfl (r_load ta24 rfl (fun w hw => cell_1 (box_cells (i := 0) rfl w hw) rfl)) (F.qn rfl (r_move rfl) (F.qn rfl (r_indexAddrS Tryz.underlying24 ti168 rfl hl_va0_1 rfl (rdl_some h34).1 (rdl_some h34).2.1) (F.qn rfl (r_loadA ta168 ti168 rfl rfl (fun w hw => (Rd.flat ((fun _ hw => hr_a0_1.sep hw) w hw) (rdl_some h34).2.2))) ?_))))
     refine F.mn rfl (m_alloc ti168) ?_
     rintro _ _ ⟨b4_1, rfl, rfl⟩
     refine F.ef0 rfl rfl (wanted_none rfl) (d_storeG0 (i := 0) (cs2 := [.int .i64 t34.1, .int .i64 t34.2.1, .int .i64 t34.2.2]) ti168 rfl rfl rfl rfl rfl (Nat.le_of_ble_eq_true rfl) (lf_cons rfl (lf_cons rfl (lf_cons rfl lf_nil)))) ?_
     rintro _ _ ⟨rfl, rfl⟩
     refine F.nil (Nrm.seq (Tri.seq ?_))
     obtain ⟨y75, hE_3, hE_2⟩ := bind_some hE_2
     refine Tri.cut (fun e' C' => e' = [(1, .pointer (some ⟨b1_1, 0, none⟩)), (3, .int .i64 x3), (75, .bool y75)] ∧ C' = Sep w noM [R.box b1_1 27 [.int .i64 a0_0, va0_1, va0_2]]) ?_ (fun hj_2 => ?_)
     ·rintro _ _ ⟨rfl, rfl⟩
      refine Nrm.seq (Tri.cond (b := y75) rfl (fun g_3 => ?_) (fun g_3 => ?_))
      ·replace hE_2 := if_tt g_3 hE_2
       refine Tri.seq (Tri.reg (l := [0]) rfl ?_)
       refine F.qn rfl (r_assign rfl) (F.nil (Nrm.seq (Tri.ret ?_)))
       refine Rtn.block ?_
       refine Rtn.then ?_
       refine Rtn.then ?_
       refine Rtn.block ?_
       refine Rtn.then ?_
       cases hE_2
       replace h := Lr_inr h
       cases h
       exact Rtn.body (.tmp rfl .nil) (fun w hw => ⟨rfl, hw.ext⟩)
      ·replace hE_2 := if_ff g_3 hE_2
       refine Tri.skip (Nrm.block ?_)
       refine Nrm.seq (Tri.reg (l := [0, 1, 2]) rfl ?_)
       refine F.qn rfl (r_move rfl) (F.qn rfl (r_add rfl rfl) (F.qn rfl (r_assign rfl) (F.nil (Nrm.round ?_))))
       refine Rnd.only [1, 3] rfl ?_
       refine Rnd.pick [0] rfl rfl ?_
       exact ih_1 _ _ ⟨w64 (x3 + 1), hE_2, rfl, rfl⟩
     ·obtain ⟨t41, h41, hE_3⟩ := bind_some hE_3
      rcases Bool.eq_false_or_eq_true (!t41) with g43 | g43
      ·replace hE_3 := if_tt g43 hE_3
       refine Tri.drawA mixedT Sep.up [(0, true), (1, true), (2, true), (3, true), (4, true), (5, true), (6, true), (7, true), (8, true), (9, true), (10, true), (11, true), (12, true), (13, true), (14, true), (15, true), (16, true), (17, true), (18, true), (19, true), (20, true), (21, true), (22, true), (23, true), (24, true), (25, true), (26, true), (27, true), (28, true), (29, true), (30, true), (31, true), (32, true), (33, true), (34, true), (35, true), (36, true), (37, true), (38, true), (39, true)] [] (by kernel_rfl) ?_
       refine S.qn rfl (r_indexAddrA Tryz.underlying168 ti3 rfl rfl (by decide) (by decide)) (S.qn rfl (r_load ta3 rfl (fun w hw => cell_1 (box_cells (i := 0) rfl w hw) rfl)) (S.qn rfl (r_fieldAddr tf27_0 rfl) (S.qn rfl (r_load ta3 rfl (fun w hw => cell_1 (box_cells (i := 1) rfl w hw) rfl)) (S.qn rfl (r_sub rfl rfl) ?_))))
       refine S.qcn rfl (q_callF (xs := _) rfl ok148 rfl rfl (fun w hw => spec_l1In.ok h41 w )) ?_
       refine S.qn rfl (r_not rfl) (S.qn rfl (r_move rfl) ?_)
       iterate 10 refine S.skf rfl g43 ?_
       refine S.qn rfl (r_pick rfl rfl g43) (S.qn rfl (r_move rfl) ?_)
       iterate 4 refine S.skf rfl rfl ?_
       refine S.qn rfl (r_pick rfl rfl rfl) (S.qn rfl (r_move rfl) ?_)
       iterate 3 refine S.skf rfl rfl ?_
       iterate 9 refine S.sk rfl rfl rfl (wanted_undef rfl rfl rfl) ?_
       refine S.skf rfl rfl (S.qn rfl (r_pick rfl rfl rfl) (S.nil (F.nil ?_)))
       cases hE_3
       refine Nrm.only [1, 3, 75] rfl ?_
       refine Nrm.pick [1] rfl rfl ?_
       exact hj_2 _ _ ⟨rfl, rfl⟩
      ·replace hE_3 := if_ff g43 hE_3
       obtain ⟨t52, h52, hE_3⟩ := bind_some hE_3
       rcases Bool.eq_false_or_eq_true (!t52) with g55 | g55
       ·replace hE_3 := if_tt g55 hE_3
        refine Tri.drawA mixedT Sep.up [(0, true), (1, true), (2, true), (3, true), (4, true), (5, true), (6, true), (7, true), (8, true), (9, true), (10, true), (11, true), (12, true), (13, true), (14, true), (15, true), (16, true), (17, true), (18, true), (19, true), (20, true), (21, true), (22, true), (23, true), (24, true), (25, true), (26, true), (27, true), (28, true), (29, true), (30, true), (31, true), (32, true), (33, true), (34, true), (35, true), (36, true), (37, true), (38, true), (39, true)] [] (by kernel_rfl) ?_
        refine S.qn rfl (r_indexAddrA Tryz.underlying168 ti3 rfl rfl (by decide) (by decide)) (S.qn rfl (r_load ta3 rfl (fun w hw => cell_1 (box_cells (i := 0) rfl w hw) rfl)) (S.qn rfl (r_fieldAddr tf27_0 rfl) (S.qn rfl (r_load ta3 rfl (fun w hw => cell_1 (box_cells (i := 1) rfl w hw) rfl)) (S.qn rfl (r_sub rfl rfl) ?_))))
        refine S.qcn rfl (q_callF (xs := _) rfl ok148 rfl rfl (fun w hw => spec_l1In.ok h41 w )) ?_
        refine S.qn rfl (r_not rfl) (S.qn rfl (r_move rfl) (S.qg rfl g43 (r_indexAddrA Tryz.underlying168 ti3 rfl rfl (by decide) (by decide)) (S.qg rfl g43 (r_load ta3 rfl (fun w hw => cell_1 (box_cells (i := 0) rfl w hw) rfl)) ?_)))
        refine S.qg rfl g43 (r_indexAddrA Tryz.underlying168 ti3 rfl rfl (by decide) (by decide)) (S.qg rfl g43 (r_load ta3 rfl (fun w hw => cell_1 (box_cells (i := 0) rfl w hw) rfl)) (S.qg rfl g43 (r_add rfl rfl) (S.qg rfl g43 (r_fieldAddr tf27_0 rfl) (S.qg rfl g43 (r_load ta3 rfl (fun w hw => cell_1 (box_cells (i := 1) rfl w hw) rfl)) (S.qg rfl g43 (r_sub rfl rfl) ?_)))))
        refine S.qc rfl rfl rfl (wg rfl rfl rfl g43) (q_callF (xs := _) rfl ok148 rfl rfl (fun w hw => spec_l1In.ok h52 w )) ?_
        refine S.qg rfl g43 (r_not rfl) (S.qn rfl (r_pickf rfl rfl g43) (S.qn rfl (r_move rfl) ?_))
        iterate 4 refine S.skf rfl g55 ?_
        refine S.qn rfl (r_pick rfl rfl g55) (S.qn rfl (r_move rfl) ?_)
        iterate 3 refine S.skf rfl rfl ?_
        iterate 9 refine S.sk rfl rfl rfl (wanted_undef rfl rfl rfl) ?_
        refine S.skf rfl rfl (S.qn rfl (r_pick rfl rfl rfl) (S.nil (F.nil ?_)))
        cases hE_3
        refine Nrm.only [1, 3, 75] rfl ?_
        refine Nrm.pick [1] rfl rfl ?_
        exact hj_2 _ _ ⟨rfl, rfl⟩
       ·replace hE_3 := if_ff g55 hE_3
        obtain ⟨t58, h58, hE_3⟩ := bind_some hE_3
        rcases Bool.eq_false_or_eq_true (!t58) with g61 | g61
        ·replace hE_3 := if_tt g61 hE_3
         refine Tri.drawA mixedT Sep.up [(0, true), (1, true), (2, true), (3, true), (4, true), (5, true), (6, true), (7, true), (8, true), (9, true), (10, true), (11, true), (12, true), (13, true), (14, true), (15, true), (16, true), (17, true), (18, true), (19, true), (20, true), (21, true), (22, true), (23, true), (24, true), (25, true), (26, true), (27, true), (28, true), (29, true), (30, true), (31, true), (32, true), (33, true), (34, true), (35, true), (36, true), (37, true), (38, true), (39, true)] [] (by kernel_rfl) ?_
         refine S.qn rfl (r_indexAddrA Tryz.underlying168 ti3 rfl rfl (by decide) (by decide)) (S.qn rfl (r_load ta3 rfl (fun w hw => cell_1 (box_cells (i := 0) rfl w hw) rfl)) (S.qn rfl (r_fieldAddr tf27_0 rfl) (S.qn rfl (r_load ta3 rfl (fun w hw => cell_1 (box_cells (i := 1) rfl w hw) rfl)) (S.qn rfl (r_sub rfl rfl) ?_))))
         refine S.qcn rfl (q_callF (xs := _) rfl ok148 rfl rfl (fun w hw => spec_l1In.ok h41 w )) ?_
         refine S.qn rfl (r_not rfl) (S.qn rfl (r_move rfl) (S.qg rfl g43 (r_indexAddrA Tryz.underlying168 ti3 rfl rfl (by decide) (by decide)) (S.qg rfl g43 (r_load ta3 rfl (fun w hw => cell_1 (box_cells (i := 0) rfl w hw) rfl)) ?_)))
         refine S.qg rfl g43 (r_indexAddrA Tryz.underlying168 ti3 rfl rfl (by decide) (by decide)) (S.qg rfl g43 (r_load ta3 rfl (fun w hw => cell_1 (box_cells (i := 0) rfl w hw) rfl)) (S.qg rfl g43 (r_add rfl rfl) (S.qg rfl g43 (r_fieldAddr tf27_0 rfl) (S.qg rfl g43 (r_load ta3 rfl (fun w hw => cell_1 (box_cells (i := 1) rfl w hw) rfl)) (S.qg rfl g43 (r_sub rfl rfl) ?_)))))
         refine S.qc rfl rfl rfl (wg rfl rfl rfl g43) (q_callF (xs := _) rfl ok148 rfl rfl (fun w hw => spec_l1In.ok h52 w )) ?_
         refine S.qg rfl g43 (r_not rfl) (S.qn rfl (r_pickf rfl rfl g43) (S.qn rfl (r_move rfl) (S.qg rfl g55 (r_indexAddrA Tryz.underlying168 ti3 rfl rfl (by decide) (by decide)) (S.qg rfl g55 (r_load ta3 rfl (fun w hw => cell_1 (box_cells (i := 0) rfl w hw) rfl)) ?_))))
         refine S.qc rfl rfl rfl (wg rfl rfl rfl g55) (q_callF (xs := _) rfl ok178 rfl rfl (fun w hw => spec_l2Set.ok h58 w )) ?_
         refine S.qg rfl g55 (r_not rfl) (S.qn rfl (r_pickf rfl rfl g55) (S.qn rfl (r_move rfl) ?_))
         iterate 3 refine S.skf rfl g61 ?_
         iterate 9 refine S.sk rfl rfl rfl (wanted_undef rfl rfl rfl) ?_
         refine S.skf rfl g61 (S.qn rfl (r_pick rfl rfl g61) (S.nil (F.nil ?_)))
         cases hE_3
         refine Nrm.only [1, 3, 75] rfl ?_
         refine Nrm.pick [1] rfl rfl ?_
         exact hj_2 _ _ ⟨rfl, rfl⟩
        ·replace hE_3 := if_ff g61 hE_3
         rcases Bool.eq_false_or_eq_true (decide (x3 > 0)) with g64 | g64
         ·replace hE_3 := if_tt g64 hE_3
          obtain ⟨t69, h69, hE_3⟩ := bind_some hE_3
          obtain ⟨t72, h72, hE_3⟩ := bind_some hE_3
          refine Tri.drawA mixedT Sep.up [(0, true), (1, true), (2, true), (3, true), (4, true), (5, true), (6, true), (7, true), (8, true), (9, true), (10, true), (11, true), (12, true), (13, true), (14, true), (15, true), (16, true), (17, true), (18, true), (19, true), (20, true), (21, true), (22, true), (23, true), (24, true), (25, true), (26, true), (27, true), (28, true), (29, true), (30, true), (31, true), (32, true), (33, true), (34, true), (35, true), (36, true), (37, true), (38, true), (39, true)] [] (by kernel_rfl) ?_
          refine S.qn rfl (r_indexAddrA Tryz.underlying168 ti3 rfl rfl (by decide) (by decide)) (S.qn rfl (r_load ta3 rfl (fun w hw => cell_1 (box_cells (i := 0) rfl w hw) rfl)) (S.qn rfl (r_fieldAddr tf27_0 rfl) (S.qn rfl (r_load ta3 rfl (fun w hw => cell_1 (box_cells (i := 1) rfl w hw) rfl)) (S.qn rfl (r_sub rfl rfl) ?_))))
          refine S.qcn rfl (q_callF (xs := _) rfl ok148 rfl rfl (fun w hw => spec_l1In.ok h41 w )) ?_
          refine S.qn rfl (r_not rfl) (S.qn rfl (r_move rfl) (S.qg rfl g43 (r_indexAddrA Tryz.underlying168 ti3 rfl rfl (by decide) (by decide)) (S.qg rfl g43 (r_load ta3 rfl (fun w hw => cell_1 (box_cells (i := 0) rfl w hw) rfl)) ?_)))
          refine S.qg rfl g43 (r_indexAddrA Tryz.underlying168 ti3 rfl rfl (by decide) (by decide)) (S.qg rfl g43 (r_load ta3 rfl (fun w hw => cell_1 (box_cells (i := 0) rfl w hw) rfl)) (S.qg rfl g43 (r_add rfl rfl) (S.qg rfl g43 (r_fieldAddr tf27_0 rfl) (S.qg rfl g43 (r_load ta3 rfl (fun w hw => cell_1 (box_cells (i := 1) rfl w hw) rfl)) (S.qg rfl g43 (r_sub rfl rfl) ?_)))))
          refine S.qc rfl rfl rfl (wg rfl rfl rfl g43) (q_callF (xs := _) rfl ok148 rfl rfl (fun w hw => spec_l1In.ok h52 w )) ?_
          refine S.qg rfl g43 (r_not rfl) (S.qn rfl (r_pickf rfl rfl g43) (S.qn rfl (r_move rfl) (S.qg rfl g55 (r_indexAddrA Tryz.underlying168 ti3 rfl rfl (by decide) (by decide)) (S.qg rfl g55 (r_load ta3 rfl (fun w hw => cell_1 (box_cells (i := 0) rfl w hw) rfl)) ?_))))
          refine S.qc rfl rfl rfl (wg rfl rfl rfl g55) (q_callF (xs := _) rfl ok178 rfl rfl (fun w hw => spec_l2Set.ok h58 w )) ?_
          refine S.qg rfl g55 (r_not rfl) ?_
          refine S.qn rfl (r_pickf rfl rfl g55) (S.qn rfl (r_move rfl) (S.qg rfl g61 (r_move rfl) (S.qg rfl g61 (r_gtr rfl rfl) (S.qg rfl g61 (r_move rfl) (S.qg rfl g64 (r_fieldAddr tf27_1 rfl) ?_)))))
          refine S.qg rfl g64 (r_load ta24 rfl (fun w hw => cell_1 (box_cells (i := 1) rfl w hw) rfl)) (S.qg rfl g64 (r_move rfl) (S.qg rfl g64 (r_sub rfl rfl) (S.qg rfl g64 (r_indexAddrS Tryz.underlying24 ti168 rfl hl_va0_1 rfl (rdl_some h69).1 (rdl_some h69).2.1) (S.qg rfl g64 (r_loadA ta168 ti168 rfl rfl (fun w hw => (Rd.flat ((fun _ hw => hr_a0_1.sep hw) w hw) (rdl_some h69).2.2))) (S.qg rfl g64 (r_loadA ta168 ti168 rfl rfl (fun w hw => (box_cells (i := 0) rfl w hw))) ?_)))))
          refine S.qc rfl rfl rfl (wg rfl rfl rfl g64) (q_callF (xs := _) rfl ok196 rfl rfl (fun w hw => spec_l2Before.ok h72 w )) ?_
          refine S.qg rfl g64 (r_not rfl) (S.qg rfl g61 (r_pick rfl rfl g64) (S.qn rfl (r_pickf rfl rfl g61) (S.nil (F.nil ?_))))
          cases hE_3
          refine Nrm.only [1, 3, 75] rfl ?_
          refine Nrm.pick [1] rfl rfl ?_
          exact hj_2 _ _ ⟨rfl, rfl⟩
         ·replace hE_3 := if_ff g64 hE_3
          refine Tri.drawA mixedT Sep.up [(0, true), (1, true), (2, true), (3, true), (4, true), (5, true), (6, true), (7, true), (8, true), (9, true), (10, true), (11, true), (12, true), (13, true), (14, true), (15, true), (16, true), (17, true), (18, true), (19, true), (20, true), (21, true), (22, true), (23, true), (24, true), (25, true), (26, true), (27, true), (28, true), (29, true), (30, true), (31, true), (32, true), (33, true), (34, true), (35, true), (36, true), (37, true), (38, true), (39, true)] [] (by kernel_rfl) ?_
          refine S.qn rfl (r_indexAddrA Tryz.underlying168 ti3 rfl rfl (by decide) (by decide)) (S.qn rfl (r_load ta3 rfl (fun w hw => cell_1 (box_cells (i := 0) rfl w hw) rfl)) (S.qn rfl (r_fieldAddr tf27_0 rfl) (S.qn rfl (r_load ta3 rfl (fun w hw => cell_1 (box_cells (i := 1) rfl w hw) rfl)) (S.qn rfl (r_sub rfl rfl) ?_))))
          refine S.qcn rfl (q_callF (xs := _) rfl ok148 rfl rfl (fun w hw => spec_l1In.ok h41 w )) ?_
          refine S.qn rfl (r_not rfl) (S.qn rfl (r_move rfl) (S.qg rfl g43 (r_indexAddrA Tryz.underlying168 ti3 rfl rfl (by decide) (by decide)) (S.qg rfl g43 (r_load ta3 rfl (fun w hw => cell_1 (box_cells (i := 0) rfl w hw) rfl)) ?_)))
          refine S.qg rfl g43 (r_indexAddrA Tryz.underlying168 ti3 rfl rfl (by decide) (by decide)) (S.qg rfl g43 (r_load ta3 rfl (fun w hw => cell_1 (box_cells (i := 0) rfl w hw) rfl)) (S.qg rfl g43 (r_add rfl rfl) (S.qg rfl g43 (r_fieldAddr tf27_0 rfl) (S.qg rfl g43 (r_load ta3 rfl (fun w hw => cell_1 (box_cells (i := 1) rfl w hw) rfl)) (S.qg rfl g43 (r_sub rfl rfl) ?_)))))
          refine S.qc rfl rfl rfl (wg rfl rfl rfl g43) (q_callF (xs := _) rfl ok148 rfl rfl (fun w hw => spec_l1In.ok h52 w )) ?_
          refine S.qg rfl g43 (r_not rfl) (S.qn rfl (r_pickf rfl rfl g43) (S.qn rfl (r_move rfl) (S.qg rfl g55 (r_indexAddrA Tryz.underlying168 ti3 rfl rfl (by decide) (by decide)) (S.qg rfl g55 (r_load ta3 rfl (fun w hw => cell_1 (box_cells (i := 0) rfl w hw) rfl)) ?_))))
          refine S.qc rfl rfl rfl (wg rfl rfl rfl g55) (q_callF (xs := _) rfl ok178 rfl rfl (fun w hw => spec_l2Set.ok h58 w )) ?_
          refine S.qg rfl g55 (r_not rfl) (S.qn rfl (r_pickf rfl rfl g55) (S.qn rfl (r_move rfl) (S.qg rfl g61 (r_move rfl) (S.qg rfl g61 (r_gtr rfl rfl) (S.qg rfl g61 (r_move rfl) ?_)))))
          iterate 9 refine S.skf rfl g64 ?_
          refine S.qg rfl g61 (r_pickf rfl rfl g64) (S.qn rfl (r_pickf rfl rfl g61) (S.nil (F.nil ?_)))
          cases hE_3
          refine Nrm.only [1, 3, 75] rfl ?_
          refine Nrm.pick [1] rfl rfl ?_
          exact hj_2 _ _ ⟨rfl, rfl⟩
    ·replace hE_2 := if_ff g_2 hE_2
     refine Tri.exit ?_
     refine Exi.then ?_
     refine Exi.then ?_
     refine Exi.same ?_
     cases hE_2
     replace h := Lr_inl h
     refine Nrm.seq (Tri.seq (Tri.seq (Tri.reg (l := [0]) rfl ?_)))
     refine F.qn rfl (r_assign rfl) (F.nil (Nrm.seq ?_))
     obtain ⟨s1, hE_4, h⟩ := bind_some h
     refine Tri.block ?_
     refine Tri.only [1, 5] rfl ?_
     refine Tri.pick [0] rfl rfl ?_
     refine Tri.rounds (fun n e' C' => ∃ (x5' : Int), spec_l2Maze.l1 k a0_0 a0_2 n x5' = some s1 ∧ e' = [(1, .pointer (some ⟨b1_1, 0, none⟩)), (5, .int .i64 x5')] ∧ C' = Sep w noM [R.box b1_1 27 [.int .i64 a0_0, va0_1, va0_2]]) k ?_ ?_ ?_
     ·exact ⟨0, hE_4, rfl, rfl⟩
     ·rintro _ _ ⟨_, hE_4, _⟩
      rw [spec_l2Maze.l1.eq_1] at hE_4; cases hE_4
     ·rintro n_2 _ _ ⟨x5, hE_4, rfl, rfl⟩ ih_2
      rw [spec_l2Maze.l1.eq_2] at hE_4
      refine Tri.seq (Tri.seq (Tri.reg (l := [0, 1, 2, 3]) rfl ?_))
      refine F.qn rfl (r_move rfl) (F.qn rfl (r_fieldAddr tf27_0 rfl) (F.qn rfl (r_load ta3 rfl (fun w hw => cell_1 (box_cells (i := 0) rfl w hw) rfl)) (F.qn rfl (r_lss rfl rfl) (F.nil (Nrm.seq (Tri.cond (b := decide (x5 < a0_0)) rfl (fun g_4 => ?_) (fun g_4 => ?_)))))))
      ·replace hE_4 := if_tt g_4 hE_4
       refine Tri.skip (Nrm.seq (Tri.seq (Tri.block ?_)))
       refine Tri.seq ?_
       obtain ⟨t85, h85, hE_4⟩ := bind_some hE_4
       obtain ⟨t87, h87, hE_4⟩ := bind_some hE_4
       refine Tri.reg (l := [0, 1, 2, 3, 4, 5, 6]) rfl ?_
       refine F.qn rfl (r_fieldAddr tf27_2 rfl) (F.qn rfl (r_load ta25 rfl (fun w hw => cell_1 (box_cells (i := 0) rfl w hw) rfl)) (F.qn rfl (r_move rfl) (F.qn rfl (r_indexAddrS Tryz.underlying25 ti3 rfl hl_va0_2 rfl (rdl_some h85).1 (rdl_some h85).2.1) (F.qn rfl (r_load ta3 rfl (fun w hw => cell_0 (Rd.flat ((fun _ hw => hr_a0_2.sep hw) w hw) (rdl_some h85).2.2) rfl)) ?_))))
       refine F.qcn rfl (q_callF (xs := _) rfl ok178 rfl rfl (fun w hw => spec_l2Set.ok h87 w )) ?_
       refine F.qn rfl (r_not rfl) (F.nil (Nrm.seq (Tri.cond (b := !t87) rfl (fun g_5 => ?_) (fun g_5 => ?_))))
       ·replace hE_4 := if_tt g_5 hE_4
        refine Tri.seq (Tri.reg (l := [0]) rfl ?_)
        refine F.qn rfl (r_assign rfl) (F.nil (Nrm.seq (Tri.ret ?_)))
        refine Rtn.block ?_
        refine Rtn.then ?_
        refine Rtn.then ?_
        refine Rtn.block ?_
        refine Rtn.then ?_
        cases hE_4
        replace h := Lr_inr h
        cases h
        exact Rtn.body (.tmp rfl .nil) (fun w hw => ⟨rfl, hw.ext⟩)
       ·replace hE_4 := if_ff g_5 hE_4
        refine Tri.skip (Nrm.block ?_)
        refine Nrm.seq (Tri.reg (l := [0, 1, 2]) rfl ?_)
        refine F.qn rfl (r_move rfl) (F.qn rfl (r_add rfl rfl) (F.qn rfl (r_assign rfl) (F.nil (Nrm.round ?_))))
        refine Rnd.only [1, 5] rfl ?_
        refine Rnd.pick [0] rfl rfl ?_
        exact ih_2 _ _ ⟨w64 (x5 + 1), hE_4, rfl, rfl⟩
      ·replace hE_4 := if_ff g_4 hE_4
       refine Tri.exit ?_
       refine Exi.then ?_
       refine Exi.then ?_
       refine Exi.same ?_
       cases hE_4
       replace h := Lr_inl h
       refine Nrm.seq (Tri.seq (Tri.reg (l := [0]) rfl ?_))
       refine F.qn rfl (r_assign rfl) (F.nil (Nrm.seq (Tri.ret ?_)))
       cases h
       exact Rtn.body (.tmp rfl .nil) (fun w hw => ⟨rfl, hw.ext⟩)
 ·obtain ⟨t8, h8, hE_1⟩ := bind_some hE_1
  rcases Bool.eq_false_or_eq_true (!t8) with g10 | g10
  ·replace hE_1 := if_tt g10 hE_1
   refine Tri.reg (l := List.range 18) rfl ?_
   refine F.qn rfl (r_fieldAddr tf27_0 rfl) (F.qn rfl (r_load ta3 rfl (fun w hw => cell_1 (box_cells (i := 0) rfl w hw) rfl)) ?_)
   refine F.qcn rfl (q_callF (xs := _) rfl ok148 rfl rfl (fun w hw => spec_l1In.ok h8 w )) ?_
   refine F.qn rfl (r_not rfl) (F.qn rfl (r_move rfl) ?_)
   iterate 4 refine F.skf rfl g10 ?_
   refine F.qn rfl (r_pick rfl rfl g10) (F.qn rfl (r_move rfl) ?_)
   iterate 6 refine F.skf rfl rfl ?_
   refine F.qn rfl (r_pick rfl rfl rfl) (F.nil ?_)
   cases hE_1
   refine Nrm.only [1, 23] rfl ?_
   refine Nrm.pick [0] rfl rfl ?_
   exact hj_1 _ _ ⟨rfl, rfl⟩
  ·replace hE_1 := if_ff g10 hE_1
   rcases Bool.eq_false_or_eq_true (decide ((a0_1.length : Int) > 30)) with g16 | g16
   ·replace hE_1 := if_tt g16 hE_1
    refine Tri.reg (l := List.range 18) rfl ?_
    refine F.qn rfl (r_fieldAddr tf27_0 rfl) (F.qn rfl (r_load ta3 rfl (fun w hw => cell_1 (box_cells (i := 0) rfl w hw) rfl)) ?_)
    refine F.qcn rfl (q_callF (xs := _) rfl ok148 rfl rfl (fun w hw => spec_l1In.ok h8 w )) ?_
    refine F.qn rfl (r_not rfl) (F.qn rfl (r_move rfl) ?_)
    refine F.qg rfl g10 (r_fieldAddr tf27_1 rfl) (F.qg rfl g10 (r_load ta24 rfl (fun w hw => cell_1 (box_cells (i := 0) rfl w hw) rfl)) (F.qg rfl g10 (r_len Tryz.underlying24 rfl hl_va0_1) (F.qg rfl g10 (r_gtr rfl rfl) (F.qn rfl (r_pickf rfl rfl g10) (F.qn rfl (r_move rfl) ?_)))))
    iterate 6 refine F.skf rfl g16 ?_
    refine F.qn rfl (r_pick rfl rfl g16) (F.nil ?_)
    cases hE_1
    refine Nrm.only [1, 23] rfl ?_
    refine Nrm.pick [0] rfl rfl ?_
    exact hj_1 _ _ ⟨rfl, rfl⟩
   ·replace hE_1 := if_ff g16 hE_1
    refine Tri.reg (l := List.range 18) rfl ?_
    refine F.qn rfl (r_fieldAddr tf27_0 rfl) (F.qn rfl (r_load ta3 rfl (fun w hw => cell_1 (box_cells (i := 0) rfl w hw) rfl)) ?_)
    refine F.qcn rfl (q_callF (xs := _) rfl ok148 rfl rfl (fun w hw => spec_l1In.ok h8 w )) ?_
    refine F.qn rfl (r_not rfl) (F.qn rfl (r_move rfl) (F.qg rfl g10 (r_fieldAddr tf27_1 rfl) ?_))
    refine F.qg rfl g10 (r_load ta24 rfl (fun w hw => cell_1 (box_cells (i := 0) rfl w hw) rfl)) (F.qg rfl g10 (r_len Tryz.underlying24 rfl hl_va0_1) (F.qg rfl g10 (r_gtr rfl rfl) (F.qn rfl (r_pickf rfl rfl g10) (F.qn rfl (r_move rfl) (F.qg rfl g16 (r_fieldAddr tf27_2 rfl) ?_)))))
    refine F.qg rfl g16 (r_load ta25 rfl (fun w hw => cell_1 (box_cells (i := 0) rfl w hw) rfl)) (F.qg rfl g16 (r_len Tryz.underlying25 rfl hl_va0_2) (F.qg rfl g16 (r_fieldAddr tf27_0 rfl) (F.qg rfl g16 (r_load ta3 rfl (fun w hw => cell_1 (box_cells (i := 0) rfl w hw) rfl)) (F.qg rfl g16 (r_neq rfl rfl) (F.qn rfl (r_pickf rfl rfl g16) (F.nil ?_))))))
    cases hE_1
    refine Nrm.only [1, 23] rfl ?_
    refine Nrm.pick [0] rfl rfl ?_
    exact hj_1 _ _ ⟨rfl, rfl⟩


def spec_l1Own.f (k : Nat) (a0 : List Int) : Option ((List Int)) := if (([] : List (Int)) ++ a0).length < 1099511627776 then some (([] : List (Int)) ++ a0) else none

theorem spec_l1Own.ok {k : Nat}  {a0 : List Int} {r0 : List Int} (h : spec_l1Own.f k a0 = some r0) (w : World) {va0 : Value} (hr_a0 : Rd w va0 a0) :
  Calls Tryz.prog 197 ([va0] : List Value).toArray w (Post (fun u ns => ∃ (Sr0 : Nat → Prop), SlLen u r0.length ∧ ns = [R.sl Sr0 u r0]) w) := by
 unfold spec_l1Own.f at h
 have hl_va0 := hr_a0.len
 refine Calls.of_tri (N := 6) Tryz.func197 rfl rfl rfl (Sep.nil (M := noM)) ?_
 refine Tri.seq (Tri.reg (l := [0]) rfl ?_)
 refine F.qn rfl (r_assign rfl) (F.nil (Nrm.seq (Tri.seq ?_)))
 obtain ⟨hs5, h⟩ := ck h
 refine Tri.reg (l := [0, 1, 2, 3]) rfl ?_
 refine F.mn rfl (m_build0 (α := Int) Tryz.underlying25 ti3) ?_
 rintro v3_1 _ ⟨S3_1, hl_v3_1, rfl⟩
 refine F.qn rfl (r_move rfl) ?_
 refine F.efn rfl (d_append (i := 0) Tryz.underlying25 Tryz.underlying25 ti3 rfl (by decide) rfl rfl rfl (fun _ hw => hr_a0.sep hw) hs5) ?_
 rintro v5_1 _ ⟨S5_1, rfl, hl_v5_1⟩
 refine F.qn rfl (r_assign rfl) (F.nil (Nrm.seq (Tri.ret ?_)))
 cases h
 exact Rtn.body (.tmp rfl .nil) (fun w hw => ⟨_, _, rfl, ⟨S5_1, hl_v5_1, rfl⟩, Sep.pick (is := [0]) rfl rfl hw⟩)


def spec_l2Own.f (k : Nat) (a0_0 : Int) (a0_1 : List (Int × Int × Int)) (a0_2 : List Int) : Option (Int × (List (Int × Int × Int)) × (List Int)) := if (([] : List (Int × Int × Int)) ++ a0_1).length < 1099511627776 then (spec_l1Own.f k a0_2).bind fun t11 => some (a0_0, ([] : List (Int × Int × Int)) ++ a0_1, t11) else none

theorem spec_l2Own.ok {k : Nat}  {a0_0 : Int} {a0_1 : List (Int × Int × Int)} {a0_2 : List Int} {r0 : Int} {r1 : List (Int × Int × Int)} {r2 : List Int} (h : spec_l2Own.f k a0_0 a0_1 a0_2 = some (r0, r1, r2)) (w : World) {va0_1 : Value} {va0_2 : Value} (hr_a0_1 : Rd w va0_1 a0_1) (hr_a0_2 : Rd w va0_2 a0_2) :
  Calls Tryz.prog 141 ([.agg ([.int .i64 a0_0, va0_1, va0_2].toArray)] : List Value).toArray w (Post (fun u ns => ∃ (ur1 : Value) (Sr1 : Nat → Prop) (ur2 : Value) (Sr2 : Nat → Prop), u = .agg [.int .i64 r0, ur1, ur2].toArray ∧ SlLen ur1 r1.length ∧ SlLen ur2 r2.length ∧ ns = [R.sl Sr1 ur1 r1, R.sl Sr2 ur2 r2]) w) := by
 unfold spec_l2Own.f at h
 have hl_va0_1 := hr_a0_1.len
 have hl_va0_2 := hr_a0_2.len
 refine Calls.of_tri (N := 13) Tryz.func141 rfl rfl rfl (Sep.nil (M := noM)) ?_
 refine Tri.seq (Tri.reg (l := [0, 1]) rfl ?_)
 refine F.mn rfl (m_boxG rfl rfl) ?_
 rintro _ _ ⟨b1_1, rfl, rfl⟩
 refine F.mn rfl (m_alloc ti27) ?_
 rintro _ _ ⟨b2_1, rfl, rfl⟩
 refine F.nil (Nrm.seq (Tri.seq ?_))
 obtain ⟨hs8, h⟩ := ck h
 obtain ⟨t11, h11, h⟩ := bind_some h
 refine Tri.drawB mixedT Sep.up [(0, true), (1, true), (3, true), (4, true), (6, true), (7, true), (2, false), (5, false), (8, false)] [9, 10] (by kernel_rfl) ?_
 refine B.q rfl rfl rfl (wanted_none rfl) (r_fieldAddr tf27_0 rfl) ?_
 refine B.q rfl rfl rfl (wanted_none rfl) (r_load ta3 rfl (fun w hw => cell_1 (box_cells (i := 1) rfl w hw) rfl)) ?_
 refine B.q rfl rfl rfl (wanted_none rfl) (r_fieldAddr tf27_1 rfl) ?_
 refine B.q rfl rfl rfl (wanted_none rfl) (r_load ta24 rfl (fun w hw => cell_1 (box_cells (i := 1) rfl w hw) rfl)) ?_
 refine B.q rfl rfl rfl (wanted_none rfl) (r_fieldAddr tf27_2 rfl) ?_
 refine B.q rfl rfl rfl (wanted_none rfl) (r_load ta25 rfl (fun w hw => cell_1 (box_cells (i := 1) rfl w hw) rfl)) ?_
 refine B.ef rfl rfl rfl (wanted_none rfl) (Makes.does (m_build0 (α := Int × Int × Int) Tryz.underlying24 ti168)) (by rintro v5_2 _ ⟨S5_2, hl_v5_2, rfl⟩; exact upd rfl [1, 2] rfl rfl) ?_
 rintro v5_2 _ ⟨S5_2, hl_v5_2, rfl⟩
 refine B.ef rfl rfl rfl (wanted_none rfl) (d_append (i := 0) Tryz.underlying24 Tryz.underlying24 ti168 rfl (by decide) rfl rfl rfl (fun _ hw => hr_a0_1.sep hw) hs8) (by rintro v8_2 _ ⟨S8_2, rfl, hl_v8_2⟩; exact upd rfl [1, 2] rfl rfl) ?_
 rintro v8_2 _ ⟨S8_2, rfl, hl_v8_2⟩
 refine B.ef rfl rfl rfl (wanted_none rfl) (Makes.does (m_callF (xs := _) rfl ok197 rfl rfl (fun w hw => spec_l1Own.ok h11 w ((fun _ hw => hr_a0_2.sep hw) w hw)))) (by rintro v11_2 _ ⟨_, ⟨S11_2, hl_v11_2, rfl⟩, rfl⟩; exact upd rfl [2, 3] rfl rfl) ?_
 rintro v11_2 _ ⟨_, ⟨S11_2, hl_v11_2, rfl⟩, rfl⟩
 refine B.nil ?_
 refine F.qn rfl (r_build (pl := [(0, 1), (1, 1), (2, 1)]) (qs := [(0, [.int .i64 a0_0]), (1, [v8_2]), (2, [v11_2])]) (cs := [.int .i64 a0_0, v8_2, v11_2]) (by kernel_rfl) ti27 rfl (.cons rfl rfl (Nat.le_of_ble_eq_true rfl) (.cons (sl_cells hl_v8_2) rfl (Nat.le_of_ble_eq_true rfl) (.cons (sl_cells hl_v11_2) rfl (Nat.le_of_ble_eq_true rfl) .nil))) rfl rfl) ?_
 refine F.ef0 rfl rfl (wanted_none rfl) (d_storeG0 (i := 2) (cs2 := [.int .i64 a0_0, v8_2, v11_2]) ti27 rfl rfl rfl rfl rfl (Nat.le_of_ble_eq_true rfl) (lf_cons rfl (lf_cons (sl_leaf hl_v8_2) (lf_cons (sl_leaf hl_v11_2) lf_nil)))) ?_
 rintro _ _ ⟨rfl, rfl⟩
 refine F.nil (Nrm.seq (Tri.ret ?_))
 cases h
 exact Rtn.body (.cell rfl ta27 ti27 rfl (fun _ hw => box_cells (i := 2) rfl _ hw) .nil) (fun w hw => ⟨_, _, rfl, ⟨v8_2, S8_2, v11_2, S11_2, rfl, hl_v8_2, hl_v11_2, rfl⟩, Sep.pick (is := [1, 0]) rfl rfl hw⟩)


def spec_l12Own.f (k : Nat) (a0_0 : Int) (a0_1 : List (Int × Int × Int)) (a0_2 : List Int) (a0_3 : List Int) (a0_4 : Int) : Option (Int × (List (Int × Int × Int)) × (List Int) × (List Int) × Int) := (spec_l2Own.f k a0_0 a0_1 a0_2).bind fun (t7_1, t7_2, t7_3) => (spec_l1Own.f k a0_3).bind fun t11 => some (t7_1, t7_2, t7_3, t11, a0_4)

theorem spec_l12Own.ok {k : Nat}  {a0_0 : Int} {a0_1 : List (Int × Int × Int)} {a0_2 : List Int} {a0_3 : List Int} {a0_4 : Int} {r0 : Int} {r1 : List (Int × Int × Int)} {r2 : List Int} {r3 : List Int} {r4 : Int} (h : spec_l12Own.f k a0_0 a0_1 a0_2 a0_3 a0_4 = some (r0, r1, r2, r3, r4)) (w : World) {va0_1 : Value} {va0_2 : Value} {va0_3 : Value} (hr_a0_1 : Rd w va0_1 a0_1) (hr_a0_2 : Rd w va0_2 a0_2) (hr_a0_3 : Rd w va0_3 a0_3) :
  Calls Tryz.prog 109 ([.agg ([.int .i64 a0_0, va0_1, va0_2, va0_3, .int .i64 a0_4].toArray)] : List Value).toArray w (Post (fun u ns => ∃ (ur1 : Value) (Sr1 : Nat → Prop) (ur2 : Value) (Sr2 : Nat → Prop) (ur3 : Value) (Sr3 : Nat → Prop), u = .agg [.int .i64 r0, ur1, ur2, ur3, .int .i64 r4].toArray ∧ SlLen ur1 r1.length ∧ SlLen ur2 r2.length ∧ SlLen ur3 r3.length ∧ ns = [R.sl Sr1 ur1 r1, R.sl Sr2 ur2 r2, R.sl Sr3 ur3 r3]) w) := by
 unfold spec_l12Own.f at h
 have hl_va0_1 := hr_a0_1.len
 have hl_va0_2 := hr_a0_2.len
 have hl_va0_3 := hr_a0_3.len
 refine Calls.of_tri (N := 14) Tryz.func109 rfl rfl rfl (Sep.nil (M := noM)) ?_
 refine Tri.seq (Tri.reg (l := [0, 1]) rfl ?_)
 refine F.mn rfl (m_boxG rfl rfl) ?_
 rintro _ _ ⟨b1_1, rfl, rfl⟩
 refine F.mn rfl (m_alloc ti44) ?_
 rintro _ _ ⟨b2_1, rfl, rfl⟩
 refine F.nil (Nrm.seq (Tri.seq (Tri.reg (l := [0, 1, 2]) rfl ?_)))
 refine F.qn rfl (r_loadA ta44 ti44 rfl rfl (fun w hw => (box_cells (i := 1) rfl w hw))) ?_
 refine F.mn rfl (m_alloc ti44) ?_
 rintro _ _ ⟨b3_1, rfl, rfl⟩
 refine F.ef0 rfl rfl (wanted_none rfl) (d_storeG0 (i := 0) (cs2 := [.int .i64 a0_0, va0_1, va0_2, va0_3, .int .i64 a0_4]) ti44 rfl rfl rfl rfl rfl (Nat.le_of_ble_eq_true rfl) (lf_cons rfl (lf_cons (sl_leaf hl_va0_1) (lf_cons (sl_leaf hl_va0_2) (lf_cons (sl_leaf hl_va0_3) (lf_cons rfl lf_nil)))))) ?_
 rintro _ _ ⟨rfl, rfl⟩
 refine F.nil (Nrm.seq (Tri.seq ?_))
 obtain ⟨⟨t7_1, t7_2, t7_3⟩, h7, h⟩ := bind_some h
 refine Tri.reg (l := [0, 1, 2, 3, 4]) rfl ?_
 refine F.qn rfl (r_fieldAddr tf44_0 rfl) (F.qn rfl (r_loadA ta27 ti27 rfl rfl (fun w hw => cells_1 (cs' := [.int .i64 a0_0, va0_1, va0_2]) (box_cells (i := 2) rfl w hw) rfl)) ?_)
 refine F.mn rfl (m_callF (xs := _) rfl ok141 rfl rfl (fun w hw => spec_l2Own.ok h7 w ((fun _ hw => hr_a0_1.sep hw) w hw) ((fun _ hw => hr_a0_2.sep hw) w hw))) ?_
 rintro _ _ ⟨_, ⟨v7_1, S7_1, v7_2, S7_2, rfl, hl_v7_1, hl_v7_2, rfl⟩, rfl⟩
 refine F.qn rfl (r_fieldAddr tf44_0 rfl) ?_
 refine F.ef0 rfl rfl (wanted_none rfl) (d_storeG1 (i := 2) (cs2 := [.int .i64 t7_1, v7_1, v7_2]) ti27 rfl rfl rfl rfl rfl (Nat.le_of_ble_eq_true rfl) (lf_cons rfl (lf_cons (sl_leaf hl_v7_1) (lf_cons (sl_leaf hl_v7_2) lf_nil)))) ?_
 rintro _ _ ⟨rfl, rfl⟩
 refine F.nil (Nrm.seq (Tri.seq ?_))
 obtain ⟨t11, h11, h⟩ := bind_some h
 refine Tri.reg (l := [0, 1, 2, 3, 4]) rfl ?_
 refine F.qn rfl (r_fieldAddr tf44_1 rfl) (F.qn rfl (r_load ta25 rfl (fun w hw => cell_1 (box_cells (i := 4) rfl w hw) rfl)) ?_)
 refine F.mn rfl (m_callF (xs := _) rfl ok197 rfl rfl (fun w hw => spec_l1Own.ok h11 w ((fun _ hw => hr_a0_3.sep hw) w hw))) ?_
 rintro v11_1 _ ⟨_, ⟨S11_1, hl_v11_1, rfl⟩, rfl⟩
 refine F.qn rfl (r_fieldAddr tf44_1 rfl) ?_
 refine F.ef0 rfl rfl (wanted_none rfl) (d_storeG1 (i := 3) (cs2 := [v11_1]) ti25 rfl rfl rfl (sl_cells hl_v11_1) rfl (Nat.le_of_ble_eq_true rfl) (lf_cons (sl_leaf hl_v11_1) lf_nil)) ?_
 rintro _ _ ⟨rfl, rfl⟩
 refine F.nil (Nrm.seq (Tri.seq (Tri.reg (l := [0, 1]) rfl ?_)))
 refine F.qn rfl (r_loadA ta44 ti44 rfl rfl (fun w hw => (box_cells (i := 3) rfl w hw))) ?_
 refine F.ef0 rfl rfl (wanted_none rfl) (d_storeG0 (i := 4) (cs2 := [.int .i64 t7_1, v7_1, v7_2, v11_1, .int .i64 a0_4]) ti44 rfl rfl rfl rfl rfl (Nat.le_of_ble_eq_true rfl) (lf_cons rfl (lf_cons (sl_leaf hl_v7_1) (lf_cons (sl_leaf hl_v7_2) (lf_cons (sl_leaf hl_v11_1) (lf_cons rfl lf_nil)))))) ?_
 rintro _ _ ⟨rfl, rfl⟩
 refine F.nil (Nrm.seq (Tri.ret ?_))
 cases h
 exact Rtn.body (.cell rfl ta44 ti44 rfl (fun _ hw => box_cells (i := 4) rfl _ hw) .nil) (fun w hw => ⟨_, _, rfl, ⟨v7_1, S7_1, v7_2, S7_2, v11_1, S11_1, rfl, hl_v7_1, hl_v7_2, hl_v11_1, rfl⟩, Sep.pick (is := [1, 2, 0]) rfl rfl hw⟩)


def spec_NewVisit.f (k : Nat) (a0_0 : Int) (a0_1 : List (Int × Int × Int)) (a0_2 : List Int) : Option (Int × (List (Int × Int × Int)) × (List Int) × (List Int) × Int × Bool) := (spec_l2Maze.f k a0_0 a0_1 a0_2).bind fun t5 => (if (!t5) = true then some (0, [], [], [], 0, false) else (spec_l12Own.f k a0_0 a0_1 a0_2 ([0] : List (Int)) 0).bind fun (t11_1, t11_2, t11_3, t11_4, t11_5) => some (t11_1, t11_2, t11_3, t11_4, t11_5, true))

theorem spec_NewVisit.ok {k : Nat}  {a0_0 : Int} {a0_1 : List (Int × Int × Int)} {a0_2 : List Int} {r0 : Int} {r1 : List (Int × Int × Int)} {r2 : List Int} {r3 : List Int} {r4 : Int} {r5 : Bool} (h : spec_NewVisit.f k a0_0 a0_1 a0_2 = some (r0, r1, r2, r3, r4, r5)) (w : World) {va0_1 : Value} {va0_2 : Value} (hr_a0_1 : Rd w va0_1 a0_1) (hr_a0_2 : Rd w va0_2 a0_2) :
  Calls Tryz.prog 30 ([.agg ([.int .i64 a0_0, va0_1, va0_2].toArray)] : List Value).toArray w (Post (fun u ns => ∃ (ur1 : Value) (Sr1 : Nat → Prop) (ur2 : Value) (Sr2 : Nat → Prop) (ur3 : Value) (Sr3 : Nat → Prop), u = .tuple #[.agg [.int .i64 r0, ur1, ur2, ur3, .int .i64 r4].toArray, .bool r5] ∧ SlLen ur1 r1.length ∧ SlLen ur2 r2.length ∧ SlLen ur3 r3.length ∧ ns = [R.sl Sr1 ur1 r1, R.sl Sr2 ur2 r2, R.sl Sr3 ur3 r3]) w) := by
 unfold spec_NewVisit.f at h
 have hl_va0_1 := hr_a0_1.len
 have hl_va0_2 := hr_a0_2.len
 refine Calls.of_tri (N := 12) Tryz.func30 rfl rfl rfl (Sep.nil (M := noM)) ?_
 refine Tri.seq (Tri.reg (l := [0, 1, 2]) rfl ?_)
 refine F.mn rfl (m_boxG rfl rfl) ?_
 rintro _ _ ⟨b1_1, rfl, rfl⟩
 refine F.mn rfl (m_alloc ti44) ?_
 rintro _ _ ⟨b2_1, rfl, rfl⟩
 refine F.qn rfl (r_assign rfl) (F.nil (Nrm.seq (Tri.seq (Tri.seq ?_))))
 obtain ⟨t5, h5, h⟩ := bind_some h
 refine Tri.reg (l := [0, 1, 2]) rfl ?_
 refine F.qn rfl (r_loadA ta27 ti27 rfl rfl (fun w hw => (box_cells (i := 1) rfl w hw))) ?_
 refine F.qcn rfl (q_callF (xs := _) rfl ok108 rfl rfl (fun w hw => spec_l2Maze.ok h5 w ((fun _ hw => hr_a0_1.sep hw) w hw) ((fun _ hw => hr_a0_2.sep hw) w hw))) ?_
 refine F.qn rfl (r_not rfl) (F.nil (Nrm.seq (Tri.cond (b := !t5) rfl (fun g_1 => ?_) (fun g_1 => ?_))))
 ·replace h := if_tt g_1 h
  refine Tri.seq (Tri.reg (l := [0, 1, 2]) rfl ?_)
  refine F.qn rfl (r_build (pl := [(0, 3), (3, 1), (4, 1)]) (qs := []) (cs := [.int .i64 0, .slice none 0 0, .slice none 0 0, .slice none 0 0, .int .i64 0]) (by kernel_rfl) ti44 rfl .nil rfl rfl) ?_
  refine F.ef0 rfl rfl (wanted_none rfl) (d_storeG0 (i := 0) (cs2 := [.int .i64 0, .slice none 0 0, .slice none 0 0, .slice none 0 0, .int .i64 0]) ti44 rfl rfl rfl rfl rfl (Nat.le_of_ble_eq_true rfl) (lf_cons rfl (lf_cons rfl (lf_cons rfl (lf_cons rfl (lf_cons rfl lf_nil)))))) ?_
  rintro _ _ ⟨rfl, rfl⟩
  refine F.qn rfl (r_assign rfl) (F.nil (Nrm.seq (Tri.ret ?_)))
  refine Rtn.then ?_
  cases h
  exact Rtn.body (.cell rfl ta44 ti44 rfl (fun _ hw => box_cells (i := 0) rfl _ hw) (.tmp rfl .nil)) (fun w hw => ⟨_, _, rfl, ⟨.slice none 0 0, fun _ => False, .slice none 0 0, fun _ => False, .slice none 0 0, fun _ => False, rfl, len_nil, len_nil, len_nil, rfl⟩, Sep.pick (is := [0, 1, 2]) rfl rfl hw.pushNil.pushNil.pushNil⟩)
 ·replace h := if_ff g_1 h
  refine Tri.skip (Nrm.seq (Tri.seq ?_))
  obtain ⟨⟨t11_1, t11_2, t11_3, t11_4, t11_5⟩, h11, h⟩ := bind_some h
  refine Tri.reg (l := [0, 1, 2, 3, 4, 5]) rfl ?_
  refine F.qn rfl (r_loadA ta27 ti27 rfl rfl (fun w hw => (box_cells (i := 1) rfl w hw))) ?_
  refine F.mn rfl (m_buildF (l := ([0] : List (Int))) Tryz.underlying25 ti3 rfl rfl rfl rfl rfl) ?_
  rintro v9_1 _ ⟨S9_1, hl_v9_1, rfl⟩
  refine F.qn rfl (r_build (pl := [(0, 3), (3, 1), (4, 1)]) (qs := [(0, [.int .i64 a0_0, va0_1, va0_2]), (3, [v9_1])]) (cs := [.int .i64 a0_0, va0_1, va0_2, v9_1, .int .i64 0]) (by kernel_rfl) ti44 rfl (.cons rfl rfl (Nat.le_of_ble_eq_true rfl) (.cons (sl_cells hl_v9_1) rfl (Nat.le_of_ble_eq_true rfl) .nil)) rfl rfl) ?_
  refine F.mn rfl (m_callF (xs := _) rfl ok109 rfl rfl (fun w hw => spec_l12Own.ok h11 w ((fun _ hw => hr_a0_1.sep hw) w hw) ((fun _ hw => hr_a0_2.sep hw) w hw) ((rd_sl (i := 0) rfl) w hw))) ?_
  rintro _ _ ⟨_, ⟨v11_1, S11_1, v11_2, S11_2, v11_3, S11_3, rfl, hl_v11_1, hl_v11_2, hl_v11_3, rfl⟩, rfl⟩
  refine F.ef0 rfl rfl (wanted_none rfl) (d_storeG0 (i := 4) (cs2 := [.int .i64 t11_1, v11_1, v11_2, v11_3, .int .i64 t11_5]) ti44 rfl rfl rfl rfl rfl (Nat.le_of_ble_eq_true rfl) (lf_cons rfl (lf_cons (sl_leaf hl_v11_1) (lf_cons (sl_leaf hl_v11_2) (lf_cons (sl_leaf hl_v11_3) (lf_cons rfl lf_nil)))))) ?_
  rintro _ _ ⟨rfl, rfl⟩
  refine F.qn rfl (r_assign rfl) (F.nil (Nrm.seq (Tri.ret ?_)))
  cases h
  exact Rtn.body (.cell rfl ta44 ti44 rfl (fun _ hw => box_cells (i := 4) rfl _ hw) (.tmp rfl .nil)) (fun w hw => ⟨_, _, rfl, ⟨v11_1, S11_1, v11_2, S11_2, v11_3, S11_3, rfl, hl_v11_1, hl_v11_2, hl_v11_3, rfl⟩, Sep.pick (is := [0, 1, 2]) rfl rfl hw⟩)


def spec_l2Has.f (k : Nat) (a0 : Int) (a1 : Int) : Option (Bool) := some ((band a0 a1) == a1)

theorem spec_l2Has.ok {k : Nat}  {a0 : Int} {a1 : Int} {r0 : Bool} (h : spec_l2Has.f k a0 a1 = some r0) (w : World) :
  Calls Tryz.prog 216 ([.int .i64 a0, .int .i64 a1] : List Value).toArray w (fun e w' => e = .returned (.bool r0) ∧ Ext w w') := by
 unfold spec_l2Has.f at h
 refine Calls.of_tri (N := 10) Tryz.func216 rfl rfl rfl (Sep.nil (M := noM)) ?_
 refine Tri.seq (Tri.reg (l := [0]) rfl ?_)
 refine F.qn rfl (r_assign rfl) (F.nil (Nrm.seq (Tri.seq (Tri.reg (l := [0, 1, 2, 3, 4, 5]) rfl ?_))))
 refine F.qn rfl (r_move rfl) (F.qn rfl (r_move rfl) (F.qn rfl (r_and rfl rfl) (F.qn rfl (r_move rfl) (F.qn rfl (r_eql rfl rfl) (F.qn rfl (r_assign rfl) (F.nil (Nrm.seq (Tri.ret ?_))))))))
 cases h
 exact Rtn.body (.tmp rfl .nil) (fun w hw => ⟨rfl, hw.ext⟩)


def spec_l2Joins.f (k : Nat) (a0_0 : Int) (a0_1 : Int) (a0_2 : Int) (a1 : Int) (a2 : Int) : Option (Bool) := ((if (a0_0 == a1) = true then (if (a0_1 == a2) = true then some true else (if (a0_0 == a2) = true then some (a0_1 == a1) else some false)) else (if (a0_0 == a2) = true then some (a0_1 == a1) else some false))).bind fun y6 => some y6

theorem spec_l2Joins.ok {k : Nat}  {a0_0 : Int} {a0_1 : Int} {a0_2 : Int} {a1 : Int} {a2 : Int} {r0 : Bool} (h : spec_l2Joins.f k a0_0 a0_1 a0_2 a1 a2 = some r0) (w : World) :
  Calls Tryz.prog 265 ([.agg ([.int .i64 a0_0, .int .i64 a0_1, .int .i64 a0_2].toArray), .int .i64 a1, .int .i64 a2] : List Value).toArray w (fun e w' => e = .returned (.bool r0) ∧ Ext w w') := by
 unfold spec_l2Joins.f at h
 refine Calls.of_tri (N := 29) Tryz.func265 rfl rfl rfl (Sep.nil (M := noM)) ?_
 refine Tri.seq (Tri.reg (l := [0, 1]) rfl ?_)
 refine F.mn rfl (m_boxG rfl rfl) ?_
 rintro _ _ ⟨b3_1, rfl, rfl⟩
 refine F.qn rfl (r_assign rfl) (F.nil (Nrm.seq (Tri.seq ?_)))
 obtain ⟨y6, hE_1, h⟩ := bind_some h
 refine Tri.cut (fun e' C' => e' = [(6, .bool y6)] ∧ C' = Sep w noM []) ?_ (fun hj_1 => ?_)
 ·rintro _ _ ⟨rfl, rfl⟩
  refine Nrm.seq (Tri.ret ?_)
  cases h
  exact Rtn.body (.tmp rfl .nil) (fun w hw => ⟨rfl, hw.ext⟩)
 ·rcases Bool.eq_false_or_eq_true (a0_0 == a1) with g11 | g11
  ·replace hE_1 := if_tt g11 hE_1
   rcases Bool.eq_false_or_eq_true (a0_1 == a2) with g17 | g17
   ·replace hE_1 := if_tt g17 hE_1
    refine Tri.reg (l := List.range 23) rfl ?_
    refine F.qn rfl (r_indexAddrA Tryz.underlying168 ti3 rfl rfl (by decide) (by decide)) (F.qn rfl (r_load ta3 rfl (fun w hw => cell_1 (box_cells (i := 0) rfl w hw) rfl)) (F.qn rfl (r_move rfl) (F.qn rfl (r_eql rfl rfl) (F.qn rfl (r_move rfl) ?_))))
    refine F.qg rfl g11 (r_indexAddrA Tryz.underlying168 ti3 rfl rfl (by decide) (by decide)) (F.qg rfl g11 (r_load ta3 rfl (fun w hw => cell_1 (box_cells (i := 0) rfl w hw) rfl)) (F.qg rfl g11 (r_move rfl) (F.qg rfl g11 (r_eql rfl rfl) (F.qn rfl (r_pick rfl rfl g11) (F.qn rfl (r_move rfl) ?_)))))
    iterate 5 refine F.skf rfl g17 ?_
    iterate 4 refine F.sk rfl rfl rfl (wanted_undef rfl rfl rfl) ?_
    refine F.skf rfl g17 (F.qn rfl (r_pick rfl rfl g17) (F.qn rfl (r_assign rfl) (F.nil ?_)))
    cases hE_1
    refine Nrm.only [6] rfl ?_
    refine Nrm.pick [] rfl rfl ?_
    exact hj_1 _ _ ⟨rfl, rfl⟩
   ·replace hE_1 := if_ff g17 hE_1
    rcases Bool.eq_false_or_eq_true (a0_0 == a2) with g22 | g22
    ·replace hE_1 := if_tt g22 hE_1
     refine Tri.reg (l := List.range 23) rfl ?_
     refine F.qn rfl (r_indexAddrA Tryz.underlying168 ti3 rfl rfl (by decide) (by decide)) (F.qn rfl (r_load ta3 rfl (fun w hw => cell_1 (box_cells (i := 0) rfl w hw) rfl)) (F.qn rfl (r_move rfl) (F.qn rfl (r_eql rfl rfl) (F.qn rfl (r_move rfl) ?_))))
     refine F.qg rfl g11 (r_indexAddrA Tryz.underlying168 ti3 rfl rfl (by decide) (by decide)) (F.qg rfl g11 (r_load ta3 rfl (fun w hw => cell_1 (box_cells (i := 0) rfl w hw) rfl)) (F.qg rfl g11 (r_move rfl) (F.qg rfl g11 (r_eql rfl rfl) (F.qn rfl (r_pick rfl rfl g11) (F.qn rfl (r_move rfl) ?_)))))
     refine F.qg rfl g17 (r_indexAddrA Tryz.underlying168 ti3 rfl rfl (by decide) (by decide)) (F.qg rfl g17 (r_load ta3 rfl (fun w hw => cell_1 (box_cells (i := 0) rfl w hw) rfl)) (F.qg rfl g17 (r_move rfl) (F.qg rfl g17 (r_eql rfl rfl) (F.qg rfl g17 (r_move rfl) (F.qg rfl g22 (r_indexAddrA Tryz.underlying168 ti3 rfl rfl (by decide) (by decide)) ?_)))))
     refine F.qg rfl g22 (r_load ta3 rfl (fun w hw => cell_1 (box_cells (i := 0) rfl w hw) rfl)) (F.qg rfl g22 (r_move rfl) (F.qg rfl g22 (r_eql rfl rfl) (F.qg rfl g17 (r_pick rfl rfl g22) (F.qn rfl (r_pickf rfl rfl g17) (F.qn rfl (r_assign rfl) (F.nil ?_))))))
     cases hE_1
     refine Nrm.only [6] rfl ?_
     refine Nrm.pick [] rfl rfl ?_
     exact hj_1 _ _ ⟨rfl, rfl⟩
    ·replace hE_1 := if_ff g22 hE_1
     refine Tri.reg (l := List.range 23) rfl ?_
     refine F.qn rfl (r_indexAddrA Tryz.underlying168 ti3 rfl rfl (by decide) (by decide)) (F.qn rfl (r_load ta3 rfl (fun w hw => cell_1 (box_cells (i := 0) rfl w hw) rfl)) (F.qn rfl (r_move rfl) (F.qn rfl (r_eql rfl rfl) ?_)))
     refine F.qn rfl (r_move rfl) (F.qg rfl g11 (r_indexAddrA Tryz.underlying168 ti3 rfl rfl (by decide) (by decide)) (F.qg rfl g11 (r_load ta3 rfl (fun w hw => cell_1 (box_cells (i := 0) rfl w hw) rfl)) (F.qg rfl g11 (r_move rfl) (F.qg rfl g11 (r_eql rfl rfl) (F.qn rfl (r_pick rfl rfl g11) ?_)))))
     refine F.qn rfl (r_move rfl) (F.qg rfl g17 (r_indexAddrA Tryz.underlying168 ti3 rfl rfl (by decide) (by decide)) (F.qg rfl g17 (r_load ta3 rfl (fun w hw => cell_1 (box_cells (i := 0) rfl w hw) rfl)) (F.qg rfl g17 (r_move rfl) (F.qg rfl g17 (r_eql rfl rfl) (F.qg rfl g17 (r_move rfl) ?_)))))
     iterate 4 refine F.skf rfl g22 ?_
     refine F.qg rfl g17 (r_pickf rfl rfl g22) (F.qn rfl (r_pickf rfl rfl g17) (F.qn rfl (r_assign rfl) (F.nil ?_)))
     cases hE_1
     refine Nrm.only [6] rfl ?_
     refine Nrm.pick [] rfl rfl ?_
     exact hj_1 _ _ ⟨rfl, rfl⟩
  ·replace hE_1 := if_ff g11 hE_1
   rcases Bool.eq_false_or_eq_true (a0_0 == a2) with g22 | g22
   ·replace hE_1 := if_tt g22 hE_1
    refine Tri.reg (l := List.range 23) rfl ?_
    refine F.qn rfl (r_indexAddrA Tryz.underlying168 ti3 rfl rfl (by decide) (by decide)) (F.qn rfl (r_load ta3 rfl (fun w hw => cell_1 (box_cells (i := 0) rfl w hw) rfl)) (F.qn rfl (r_move rfl) (F.qn rfl (r_eql rfl rfl) (F.qn rfl (r_move rfl) ?_))))
    iterate 4 refine F.skf rfl g11 ?_
    refine F.qn rfl (r_pickf rfl rfl g11) (F.qn rfl (r_move rfl) ?_)
    refine F.qg rfl rfl (r_indexAddrA Tryz.underlying168 ti3 rfl rfl (by decide) (by decide)) (F.qg rfl rfl (r_load ta3 rfl (fun w hw => cell_1 (box_cells (i := 0) rfl w hw) rfl)) (F.qg rfl rfl (r_move rfl) (F.qg rfl rfl (r_eql rfl rfl) (F.qg rfl rfl (r_move rfl) (F.qg rfl g22 (r_indexAddrA Tryz.underlying168 ti3 rfl rfl (by decide) (by decide)) ?_)))))
    refine F.qg rfl g22 (r_load ta3 rfl (fun w hw => cell_1 (box_cells (i := 0) rfl w hw) rfl)) (F.qg rfl g22 (r_move rfl) (F.qg rfl g22 (r_eql rfl rfl) (F.qg rfl rfl (r_pick rfl rfl g22) (F.qn rfl (r_pickf rfl rfl rfl) (F.qn rfl (r_assign rfl) (F.nil ?_))))))
    cases hE_1
    refine Nrm.only [6] rfl ?_
    refine Nrm.pick [] rfl rfl ?_
    exact hj_1 _ _ ⟨rfl, rfl⟩
   ·replace hE_1 := if_ff g22 hE_1
    refine Tri.reg (l := List.range 23) rfl ?_
    refine F.qn rfl (r_indexAddrA Tryz.underlying168 ti3 rfl rfl (by decide) (by decide)) (F.qn rfl (r_load ta3 rfl (fun w hw => cell_1 (box_cells (i := 0) rfl w hw) rfl)) (F.qn rfl (r_move rfl) (F.qn rfl (r_eql rfl rfl) (F.qn rfl (r_move rfl) ?_))))
    iterate 4 refine F.skf rfl g11 ?_
    refine F.qn rfl (r_pickf rfl rfl g11) ?_
    refine F.qn rfl (r_move rfl) (F.qg rfl rfl (r_indexAddrA Tryz.underlying168 ti3 rfl rfl (by decide) (by decide)) (F.qg rfl rfl (r_load ta3 rfl (fun w hw => cell_1 (box_cells (i := 0) rfl w hw) rfl)) (F.qg rfl rfl (r_move rfl) (F.qg rfl rfl (r_eql rfl rfl) (F.qg rfl rfl (r_move rfl) ?_)))))
    iterate 4 refine F.skf rfl g22 ?_
    refine F.qg rfl rfl (r_pickf rfl rfl g22) (F.qn rfl (r_pickf rfl rfl rfl) (F.qn rfl (r_assign rfl) (F.nil ?_)))
    cases hE_1
    refine Nrm.only [6] rfl ?_
    refine Nrm.pick [] rfl rfl ?_
    exact hj_1 _ _ ⟨rfl, rfl⟩


def spec_l2Open.l0 (k : Nat) (a0_1 : List (Int × Int × Int)) (a1 : Int) (a2 : Int) (a3 : Int) : Nat → Int → Option ((Unit) ⊕ (Bool))
 | 0, _ => none
 | n + 1, x9 => (if (decide (x9 < (a0_1.length : Int))) = true then ((rdl a0_1 x9).bind fun t20 => (spec_l2Joins.f k t20.1 t20.2.1 t20.2.2 a1 a2).bind fun t24 => (if t24 = true then (rdl a0_1 x9).bind fun t30 => (spec_l2Has.f k a3 t30.2.2).bind fun t33 => some t33 else some false)).bind fun y34 => (if y34 = true then some (Sum.inr true) else spec_l2Open.l0 k a0_1 a1 a2 a3 n (w64 (x9 + 1))) else some (Sum.inl ()))

def spec_l2Open.f (k : Nat) (a0_0 : Int) (a0_1 : List (Int × Int × Int)) (a0_2 : List Int) (a1 : Int) (a2 : Int) (a3 : Int) : Option (Bool) := (spec_l2Open.l0 k a0_1 a1 a2 a3 k 0).bind fun s => Lr s some fun _ => some false

theorem spec_l2Open.ok {k : Nat}  {a0_0 : Int} {a0_1 : List (Int × Int × Int)} {a0_2 : List Int} {a1 : Int} {a2 : Int} {a3 : Int} {r0 : Bool} (h : spec_l2Open.f k a0_0 a0_1 a0_2 a1 a2 a3 = some r0) (w : World) {va0_1 : Value} {va0_2 : Value} (hr_a0_1 : Rd w va0_1 a0_1) (hr_a0_2 : Rd w va0_2 a0_2) :
  Calls Tryz.prog 241 ([.agg ([.int .i64 a0_0, va0_1, va0_2].toArray), .int .i64 a1, .int .i64 a2, .int .i64 a3] : List Value).toArray w (fun e w' => e = .returned (.bool r0) ∧ Ext w w') := by
 unfold spec_l2Open.f at h
 have hl_va0_1 := hr_a0_1.len
 have hl_va0_2 := hr_a0_2.len
 refine Calls.of_tri (N := 35) Tryz.func241 rfl rfl rfl (Sep.nil (M := noM)) ?_
 refine Tri.seq (Tri.reg (l := [0, 1]) rfl ?_)
 refine F.mn rfl (m_boxG rfl rfl) ?_
 rintro _ _ ⟨b4_1, rfl, rfl⟩
 refine F.qn rfl (r_assign rfl) (F.nil (Nrm.seq (Tri.seq (Tri.seq (Tri.reg (l := [0]) rfl ?_)))))
 refine F.qn rfl (r_assign rfl) (F.nil (Nrm.seq ?_))
 obtain ⟨s0, hE_1, h⟩ := bind_some h
 refine Tri.block ?_
 refine Tri.only [1, 2, 3, 4, 9] rfl ?_
 refine Tri.pick [0] rfl rfl ?_
 refine Tri.rounds (fun n e' C' => ∃ (x9' : Int), spec_l2Open.l0 k a0_1 a1 a2 a3 n x9' = some s0 ∧ e' = [(1, .int .i64 a1), (2, .int .i64 a2), (3, .int .i64 a3), (4, .pointer (some ⟨b4_1, 0, none⟩)), (9, .int .i64 x9')] ∧ C' = Sep w noM [R.box b4_1 27 [.int .i64 a0_0, va0_1, va0_2]]) k ?_ ?_ ?_
 ·exact ⟨0, hE_1, rfl, rfl⟩
 ·rintro _ _ ⟨_, hE_1, _⟩
  rw [spec_l2Open.l0.eq_1] at hE_1; cases hE_1
 ·rintro n_1 _ _ ⟨x9, hE_1, rfl, rfl⟩ ih_1
  rw [spec_l2Open.l0.eq_2] at hE_1
  refine Tri.seq (Tri.seq (Tri.reg (l := [0, 1, 2, 3, 4]) rfl ?_))
  refine F.qn rfl (r_move rfl) (F.qn rfl (r_fieldAddr tf27_1 rfl) (F.qn rfl (r_load ta24 rfl (fun w hw => cell_1 (box_cells (i := 0) rfl w hw) rfl)) (F.qn rfl (r_len Tryz.underlying24 rfl hl_va0_1) (F.qn rfl (r_lss rfl rfl) (F.nil (Nrm.seq (Tri.cond (b := decide (x9 < (a0_1.length : Int))) rfl (fun g_1 => ?_) (fun g_1 => ?_))))))))
  ·replace hE_1 := if_tt g_1 hE_1
   refine Tri.skip (Nrm.seq (Tri.seq (Tri.block ?_)))
   refine Tri.seq ?_
   obtain ⟨y34, hE_2, hE_1⟩ := bind_some hE_1
   refine Tri.cut (fun e' C' => e' = [(1, .int .i64 a1), (2, .int .i64 a2), (3, .int .i64 a3), (4, .pointer (some ⟨b4_1, 0, none⟩)), (9, .int .i64 x9), (34, .bool y34)] ∧ C' = Sep w noM [R.box b4_1 27 [.int .i64 a0_0, va0_1, va0_2]]) ?_ (fun hj_1 => ?_)
   ·rintro _ _ ⟨rfl, rfl⟩
    refine Nrm.seq (Tri.cond (b := y34) rfl (fun g_2 => ?_) (fun g_2 => ?_))
    ·replace hE_1 := if_tt g_2 hE_1
     refine Tri.seq (Tri.reg (l := [0]) rfl ?_)
     refine F.qn rfl (r_assign rfl) (F.nil (Nrm.seq (Tri.ret ?_)))
     refine Rtn.block ?_
     refine Rtn.then ?_
     refine Rtn.then ?_
     refine Rtn.block ?_
     refine Rtn.then ?_
     cases hE_1
     replace h := Lr_inr h
     cases h
     exact Rtn.body (.tmp rfl .nil) (fun w hw => ⟨rfl, hw.ext⟩)
    ·replace hE_1 := if_ff g_2 hE_1
     refine Tri.skip (Nrm.block ?_)
     refine Nrm.seq (Tri.reg (l := [0, 1, 2]) rfl ?_)
     refine F.qn rfl (r_move rfl) (F.qn rfl (r_add rfl rfl) (F.qn rfl (r_assign rfl) (F.nil (Nrm.round ?_))))
     refine Rnd.only [1, 2, 3, 4, 9] rfl ?_
     refine Rnd.pick [0] rfl rfl ?_
     exact ih_1 _ _ ⟨w64 (x9 + 1), hE_1, rfl, rfl⟩
   ·obtain ⟨t20, h20, hE_2⟩ := bind_some hE_2
    obtain ⟨t24, h24, hE_2⟩ := bind_some hE_2
    rcases Bool.eq_false_or_eq_true (t24) with g25 | g25
    ·replace hE_2 := if_tt g25 hE_2
     obtain ⟨t30, h30, hE_2⟩ := bind_some hE_2
     obtain ⟨t33, h33, hE_2⟩ := bind_some hE_2
     refine Tri.reg (l := List.range 18) rfl ?_
     refine F.qn rfl (r_fieldAddr tf27_1 rfl) ?_
     refine F.qn rfl (r_load ta24 rfl (fun w hw => cell_1 (box_cells (i := 0) rfl w hw) rfl)) (F.qn rfl (r_move rfl) (F.qn rfl (r_indexAddrS Tryz.underlying24 ti168 rfl hl_va0_1 rfl (rdl_some h20).1 (rdl_some h20).2.1) (F.qn rfl (r_loadA ta168 ti168 rfl rfl (fun w hw => (Rd.flat ((fun _ hw => hr_a0_1.sep hw) w hw) (rdl_some h20).2.2))) (F.qn rfl (r_move rfl) (F.qn rfl (r_move rfl) ?_)))))
     refine F.qcn rfl (q_callF (xs := _) rfl ok265 rfl rfl (fun w hw => spec_l2Joins.ok h24 w )) ?_
     refine F.qn rfl (r_move rfl) (F.qg rfl g25 (r_move rfl) ?_)
     refine F.qg rfl g25 (r_fieldAddr tf27_1 rfl) (F.qg rfl g25 (r_load ta24 rfl (fun w hw => cell_1 (box_cells (i := 0) rfl w hw) rfl)) (F.qg rfl g25 (r_move rfl) (F.qg rfl g25 (r_indexAddrS Tryz.underlying24 ti168 rfl hl_va0_1 rfl (rdl_some h30).1 (rdl_some h30).2.1) (F.qg rfl g25 (r_indexAddrA Tryz.underlying168 ti3 rfl rfl (by decide) (by decide)) (F.qg rfl g25 (r_load ta3 rfl (fun w hw => cell_1 (Rd.flat ((fun _ hw => hr_a0_1.sep hw) w hw) (rdl_some h30).2.2) rfl)) ?_)))))
     refine F.qc rfl rfl rfl (wg rfl rfl rfl g25) (q_callF (xs := _) rfl ok216 rfl rfl (fun w hw => spec_l2Has.ok h33 w )) ?_
     refine F.qn rfl (r_pick rfl rfl g25) (F.nil ?_)
     cases hE_2
     refine Nrm.only [1, 2, 3, 4, 9, 34] rfl ?_
     refine Nrm.pick [0] rfl rfl ?_
     exact hj_1 _ _ ⟨rfl, rfl⟩
    ·replace hE_2 := if_ff g25 hE_2
     refine Tri.reg (l := List.range 18) rfl ?_
     refine F.qn rfl (r_fieldAddr tf27_1 rfl) ?_
     refine F.qn rfl (r_load ta24 rfl (fun w hw => cell_1 (box_cells (i := 0) rfl w hw) rfl)) (F.qn rfl (r_move rfl) (F.qn rfl (r_indexAddrS Tryz.underlying24 ti168 rfl hl_va0_1 rfl (rdl_some h20).1 (rdl_some h20).2.1) (F.qn rfl (r_loadA ta168 ti168 rfl rfl (fun w hw => (Rd.flat ((fun _ hw => hr_a0_1.sep hw) w hw) (rdl_some h20).2.2))) (F.qn rfl (r_move rfl) (F.qn rfl (r_move rfl) ?_)))))
     refine F.qcn rfl (q_callF (xs := _) rfl ok265 rfl rfl (fun w hw => spec_l2Joins.ok h24 w )) ?_
     refine F.qn rfl (r_move rfl) ?_
     iterate 8 refine F.skf rfl g25 ?_
     refine F.qn rfl (r_pickf rfl rfl g25) (F.nil ?_)
     cases hE_2
     refine Nrm.only [1, 2, 3, 4, 9, 34] rfl ?_
     refine Nrm.pick [0] rfl rfl ?_
     exact hj_1 _ _ ⟨rfl, rfl⟩
  ·replace hE_1 := if_ff g_1 hE_1
   refine Tri.exit ?_
   refine Exi.then ?_
   refine Exi.then ?_
   refine Exi.same ?_
   cases hE_1
   replace h := Lr_inl h
   refine Nrm.seq (Tri.seq (Tri.reg (l := [0]) rfl ?_))
   refine F.qn rfl (r_assign rfl) (F.nil (Nrm.seq (Tri.ret ?_)))
   cases h
   exact Rtn.body (.tmp rfl .nil) (fun w hw => ⟨rfl, hw.ext⟩)


def spec_l2Taken.l0 (k : Nat) (a0_0 : Int) (a0_1 : List (Int × Int × Int)) (a0_2 : List Int) (a1 : List Int) : Nat → (List (Int)) → Int → Int → Option (((List (Int))) ⊕ ((List Int) × Bool))
 | 0, _, _, _ => none
 | n + 1, x6, x7, x8 => (if (decide (x8 < (a1.length : Int))) = true then ((rdl a1 x8).bind fun t18 => (spec_l1In.f k t18 0 (w64 (a0_0 - 1))).bind fun t23 => (if (!t23) = true then some true else (if (x8 == 0) = true then (rdl a1 0).bind fun t30 => (if (t30 != 0) = true then some true else (if (decide (x8 > 0)) = true then (rdl a1 (w64 (x8 - 1))).bind fun t43 => (rdl a1 x8).bind fun t47 => (spec_l2Open.f k a0_0 a0_1 a0_2 t43 t47 x7).bind fun t50 => some (!t50) else some false)) else (if (decide (x8 > 0)) = true then (rdl a1 (w64 (x8 - 1))).bind fun t43 => (rdl a1 x8).bind fun t47 => (spec_l2Open.f k a0_0 a0_1 a0_2 t43 t47 x7).bind fun t50 => some (!t50) else some false)))).bind fun y53 => (if y53 = true then some (Sum.inr (([] : List (Int)), false)) else (rdl a1 x8).bind fun t60 => (rdl a0_2 t60).bind fun t62 => if (x6 ++ ([bor x7 t62] : List (Int))).length < 1099511627776 then spec_l2Taken.l0 k a0_0 a0_1 a0_2 a1 n (x6 ++ ([bor x7 t62] : List (Int))) (bor x7 t62) (w64 (x8 + 1)) else none) else some (Sum.inl x6))

def spec_l2Taken.f (k : Nat) (a0_0 : Int) (a0_1 : List (Int × Int × Int)) (a0_2 : List Int) (a1 : List Int) : Option ((List Int) × Bool) := (spec_l2Taken.l0 k a0_0 a0_1 a0_2 a1 k ([] : List (Int)) 0 0).bind fun s => Lr s some fun x6 => some (x6, decide ((x6.length : Int) > 0))

theorem spec_l2Taken.ok {k : Nat}  {a0_0 : Int} {a0_1 : List (Int × Int × Int)} {a0_2 : List Int} {a1 : List Int} {r0 : List Int} {r1 : Bool} (h : spec_l2Taken.f k a0_0 a0_1 a0_2 a1 = some (r0, r1)) (w : World) {va0_1 : Value} {va0_2 : Value} {va1 : Value} (hr_a0_1 : Rd w va0_1 a0_1) (hr_a0_2 : Rd w va0_2 a0_2) (hr_a1 : Rd w va1 a1) :
  Calls Tryz.prog 204 ([.agg ([.int .i64 a0_0, va0_1, va0_2].toArray), va1] : List Value).toArray w (Post (fun u ns => ∃ (ur0 : Value) (Sr0 : Nat → Prop), u = .tuple #[ur0, .bool r1] ∧ SlLen ur0 r0.length ∧ ns = [R.sl Sr0 ur0 r0]) w) := by
 unfold spec_l2Taken.f at h
 have hl_va0_1 := hr_a0_1.len
 have hl_va0_2 := hr_a0_2.len
 have hl_va1 := hr_a1.len
 refine Calls.of_tri (N := 73) Tryz.func204 rfl rfl rfl (Sep.nil (M := noM)) ?_
 refine Tri.seq (Tri.reg (l := [0, 1, 2]) rfl ?_)
 refine F.mn rfl (m_boxG rfl rfl) ?_
 rintro _ _ ⟨b2_1, rfl, rfl⟩
 refine F.qn rfl (r_assign rfl) (F.qn rfl (r_assign rfl) (F.nil (Nrm.seq (Tri.seq (Tri.reg (l := [0, 1, 2]) rfl ?_)))))
 refine F.mn rfl (m_build0 (α := Int) Tryz.underlying25 ti3) ?_
 rintro v9_1 _ ⟨S9_1, hl_v9_1, rfl⟩
 refine F.qn rfl (r_assign rfl) (F.qn rfl (r_assign rfl) (F.nil (Nrm.seq (Tri.seq (Tri.seq (Tri.reg (l := [0]) rfl ?_))))))
 refine F.qn rfl (r_assign rfl) (F.nil (Nrm.seq ?_))
 obtain ⟨s0, hE_1, h⟩ := bind_some h
 refine Tri.block ?_
 refine Tri.only [1, 2, 6, 7, 8] rfl ?_
 refine Tri.pick [1, 0] rfl rfl ?_
 refine Tri.rounds (fun n e' C' => ∃ (x6' : List (Int)) (x7' : Int) (x8' : Int) (w6 : Value) (T6 : Nat → Prop), spec_l2Taken.l0 k a0_0 a0_1 a0_2 a1 n x6' x7' x8' = some s0 ∧ SlLen w6 (x6').length ∧ e' = [(1, va1), (2, .pointer (some ⟨b2_1, 0, none⟩)), (6, w6), (7, .int .i64 x7'), (8, .int .i64 x8')] ∧ C' = Sep w noM [R.box b2_1 27 [.int .i64 a0_0, va0_1, va0_2], R.sl T6 w6 (x6' : List (Int))]) k ?_ ?_ ?_
 ·exact ⟨([] : List (Int)), 0, 0, v9_1, S9_1, hE_1, hl_v9_1, rfl, rfl⟩
 ·rintro _ _ ⟨_, _, _, _, _, hE_1, _⟩
  rw [spec_l2Taken.l0.eq_1] at hE_1; cases hE_1
 ·rintro n_1 _ _ ⟨x6, x7, x8, w6, T6, hE_1, hl_w6, rfl, rfl⟩ ih_1
  rw [spec_l2Taken.l0.eq_2] at hE_1
  refine Tri.seq (Tri.seq (Tri.reg (l := [0, 1, 2, 3]) rfl ?_))
  refine F.qn rfl (r_move rfl) (F.qn rfl (r_move rfl) (F.qn rfl (r_len Tryz.underlying25 rfl hl_va1) (F.qn rfl (r_lss rfl rfl) (F.nil (Nrm.seq (Tri.cond (b := decide (x8 < (a1.length : Int))) rfl (fun g_1 => ?_) (fun g_1 => ?_)))))))
  ·replace hE_1 := if_tt g_1 hE_1
   refine Tri.skip (Nrm.seq (Tri.seq (Tri.block ?_)))
   refine Tri.seq (Tri.seq ?_)
   obtain ⟨y53, hE_2, hE_1⟩ := bind_some hE_1
   refine Tri.cut (fun e' C' => e' = [(1, va1), (2, .pointer (some ⟨b2_1, 0, none⟩)), (6, w6), (7, .int .i64 x7), (8, .int .i64 x8), (53, .bool y53)] ∧ C' = Sep w noM [R.box b2_1 27 [.int .i64 a0_0, va0_1, va0_2], R.sl T6 w6 (x6 : List (Int))]) ?_ (fun hj_1 => ?_)
   ·rintro _ _ ⟨rfl, rfl⟩
    refine Nrm.seq (Tri.cond (b := y53) rfl (fun g_2 => ?_) (fun g_2 => ?_))
    ·replace hE_1 := if_tt g_2 hE_1
     refine Tri.seq (Tri.reg (l := [0, 1, 2]) rfl ?_)
     refine F.mn rfl (m_build0 (α := Int) Tryz.underlying25 ti3) ?_
     rintro v54_1 _ ⟨S54_1, hl_v54_1, rfl⟩
     refine F.qn rfl (r_assign rfl) (F.qn rfl (r_assign rfl) (F.nil (Nrm.seq (Tri.ret ?_))))
     refine Rtn.then ?_
     refine Rtn.block ?_
     refine Rtn.then ?_
     refine Rtn.then ?_
     refine Rtn.block ?_
     refine Rtn.then ?_
     cases hE_1
     replace h := Lr_inr h
     cases h
     exact Rtn.body (.tmp rfl (.tmp rfl .nil)) (fun w hw => ⟨_, _, rfl, ⟨v54_1, S54_1, rfl, hl_v54_1, rfl⟩, Sep.pick (is := [0]) rfl rfl hw⟩)
    ·replace hE_1 := if_ff g_2 hE_1
     refine Tri.skip (Nrm.seq (Tri.seq ?_))
     obtain ⟨t60, h60, hE_1⟩ := bind_some hE_1
     obtain ⟨t62, h62, hE_1⟩ := bind_some hE_1
     refine Tri.drawA mixedT Sep.up [(0, true), (1, true), (2, true), (3, true), (4, true), (5, true), (6, true), (7, true), (8, true), (9, true), (10, true)] [] (by kernel_rfl) ?_
     refine S.qn rfl (r_move rfl) (S.qn rfl (r_fieldAddr tf27_2 rfl) (S.qn rfl (r_load ta25 rfl (fun w hw => cell_1 (box_cells (i := 0) rfl w hw) rfl)) (S.qn rfl (r_move rfl) (S.qn rfl (r_move rfl) ?_))))
     refine S.qn rfl (r_indexAddrS Tryz.underlying25 ti3 rfl hl_va1 rfl (rdl_some h60).1 (rdl_some h60).2.1) (S.qn rfl (r_load ta3 rfl (fun w hw => cell_0 (Rd.flat ((fun _ hw => hr_a1.sep hw) w hw) (rdl_some h60).2.2) rfl)) (S.qn rfl (r_indexAddrS Tryz.underlying25 ti3 rfl hl_va0_2 rfl (rdl_some h62).1 (rdl_some h62).2.1) (S.qn rfl (r_load ta3 rfl (fun w hw => cell_0 (Rd.flat ((fun _ hw => hr_a0_2.sep hw) w hw) (rdl_some h62).2.2) rfl)) (S.qn rfl (r_or rfl rfl) (S.qn rfl (r_assign rfl) (S.nil (F.nil (Nrm.seq ?_))))))))
     obtain ⟨hs68, hE_1⟩ := ck hE_1
     refine Tri.reg (l := [0, 1, 2, 3, 4]) rfl ?_
     refine F.qn rfl (r_move rfl) (F.qn rfl (r_move rfl) ?_)
     refine F.mn rfl (m_buildF (l := ([bor x7 t62] : List (Int))) Tryz.underlying25 ti3 rfl rfl rfl rfl rfl) ?_
     rintro v67_1 _ ⟨S67_1, hl_v67_1, rfl⟩
     refine F.efn rfl (d_append (i := 2) Tryz.underlying25 Tryz.underlying25 ti3 rfl (by decide) rfl rfl rfl (rd_sl (i := 0) rfl) hs68) ?_
     rintro v68_1 _ ⟨S68_1, rfl, hl_v68_1⟩
     refine F.qn rfl (r_assign rfl) (F.nil (Nrm.block ?_))
     refine Nrm.seq (Tri.reg (l := [0, 1, 2]) rfl ?_)
     refine F.qn rfl (r_move rfl) (F.qn rfl (r_add rfl rfl) (F.qn rfl (r_assign rfl) (F.nil (Nrm.round ?_))))
     refine Rnd.only [1, 2, 6, 7, 8] rfl ?_
     refine Rnd.pick [1, 2] rfl rfl ?_
     exact ih_1 _ _ ⟨x6 ++ ([bor x7 t62] : List (Int)), bor x7 t62, w64 (x8 + 1), v68_1, S68_1, hE_1, hl_v68_1, rfl, rfl⟩
   ·obtain ⟨t18, h18, hE_2⟩ := bind_some hE_2
    obtain ⟨t23, h23, hE_2⟩ := bind_some hE_2
    rcases Bool.eq_false_or_eq_true (!t23) with g25 | g25
    ·replace hE_2 := if_tt g25 hE_2
     refine Tri.drawA mixedT Sep.up [(0, true), (1, true), (2, true), (3, true), (4, true), (5, true), (6, true), (7, true), (8, true), (9, true), (10, true), (11, true), (12, true), (13, true), (14, true), (15, true), (16, true), (17, true), (18, true), (19, true), (20, true), (21, true), (22, true), (23, true), (24, true), (25, true), (26, true), (27, true), (28, true), (29, true), (30, true), (31, true), (32, true), (33, true), (34, true), (35, true), (36, true), (37, true)] [] (by kernel_rfl) ?_
     refine S.qn rfl (r_move rfl) ?_
     refine S.qn rfl (r_move rfl) (S.qn rfl (r_indexAddrS Tryz.underlying25 ti3 rfl hl_va1 rfl (rdl_some h18).1 (rdl_some h18).2.1) (S.qn rfl (r_load ta3 rfl (fun w hw => cell_0 (Rd.flat ((fun _ hw => hr_a1.sep hw) w hw) (rdl_some h18).2.2) rfl)) (S.qn rfl (r_fieldAddr tf27_0 rfl) (S.qn rfl (r_load ta3 rfl (fun w hw => cell_1 (box_cells (i := 0) rfl w hw) rfl)) (S.qn rfl (r_sub rfl rfl) ?_)))))
     refine S.qcn rfl (q_callF (xs := _) rfl ok148 rfl rfl (fun w hw => spec_l1In.ok h23 w )) ?_
     refine S.qn rfl (r_not rfl) (S.qn rfl (r_move rfl) ?_)
     iterate 3 refine S.skf rfl g25 ?_
     iterate 4 refine S.sk rfl rfl rfl (wanted_undef rfl rfl rfl) ?_
     refine S.skf rfl g25 (S.qn rfl (r_pick rfl rfl g25) (S.qn rfl (r_move rfl) ?_))
     iterate 3 refine S.skf rfl rfl ?_
     iterate 13 refine S.sk rfl rfl rfl (wanted_undef rfl rfl rfl) ?_
     refine S.skf rfl rfl (S.qn rfl (r_pick rfl rfl rfl) (S.nil (F.nil ?_)))
     cases hE_2
     refine Nrm.only [1, 2, 6, 7, 8, 53] rfl ?_
     refine Nrm.pick [0, 1] rfl rfl ?_
     exact hj_1 _ _ ⟨rfl, rfl⟩
    ·replace hE_2 := if_ff g25 hE_2
     rcases Bool.eq_false_or_eq_true (x8 == 0) with g28 | g28
     ·replace hE_2 := if_tt g28 hE_2
      obtain ⟨t30, h30, hE_2⟩ := bind_some hE_2
      rcases Bool.eq_false_or_eq_true (t30 != 0) with g35 | g35
      ·replace hE_2 := if_tt g35 hE_2
       refine Tri.drawA mixedT Sep.up [(0, true), (1, true), (2, true), (3, true), (4, true), (5, true), (6, true), (7, true), (8, true), (9, true), (10, true), (11, true), (12, true), (13, true), (14, true), (15, true), (16, true), (17, true), (18, true), (19, true), (20, true), (21, true), (22, true), (23, true), (24, true), (25, true), (26, true), (27, true), (28, true), (29, true), (30, true), (31, true), (32, true), (33, true), (34, true), (35, true), (36, true), (37, true)] [] (by kernel_rfl) ?_
       refine S.qn rfl (r_move rfl) ?_
       refine S.qn rfl (r_move rfl) (S.qn rfl (r_indexAddrS Tryz.underlying25 ti3 rfl hl_va1 rfl (rdl_some h18).1 (rdl_some h18).2.1) (S.qn rfl (r_load ta3 rfl (fun w hw => cell_0 (Rd.flat ((fun _ hw => hr_a1.sep hw) w hw) (rdl_some h18).2.2) rfl)) (S.qn rfl (r_fieldAddr tf27_0 rfl) (S.qn rfl (r_load ta3 rfl (fun w hw => cell_1 (box_cells (i := 0) rfl w hw) rfl)) (S.qn rfl (r_sub rfl rfl) ?_)))))
       refine S.qcn rfl (q_callF (xs := _) rfl ok148 rfl rfl (fun w hw => spec_l1In.ok h23 w )) ?_
       refine S.qn rfl (r_not rfl) (S.qn rfl (r_move rfl) (S.qg rfl g25 (r_move rfl) (S.qg rfl g25 (r_eql rfl rfl) (S.qg rfl g25 (r_move rfl) (S.qg rfl g28 (r_move rfl) ?_)))))
       refine S.qg rfl g28 (r_indexAddrS Tryz.underlying25 ti3 rfl hl_va1 rfl (rdl_some h30).1 (rdl_some h30).2.1) (S.qg rfl g28 (r_load ta3 rfl (fun w hw => cell_0 (Rd.flat ((fun _ hw => hr_a1.sep hw) w hw) (rdl_some h30).2.2) rfl)) (S.qg rfl g28 (r_neq rfl rfl) (S.qg rfl g25 (r_pick rfl rfl g28) (S.qn rfl (r_pickf rfl rfl g25) (S.qn rfl (r_move rfl) ?_)))))
       iterate 3 refine S.skf rfl g35 ?_
       iterate 13 refine S.sk rfl rfl rfl (wanted_undef rfl rfl rfl) ?_
       refine S.skf rfl g35 (S.qn rfl (r_pick rfl rfl g35) (S.nil (F.nil ?_)))
       cases hE_2
       refine Nrm.only [1, 2, 6, 7, 8, 53] rfl ?_
       refine Nrm.pick [0, 1] rfl rfl ?_
       exact hj_1 _ _ ⟨rfl, rfl⟩
      ·replace hE_2 := if_ff g35 hE_2
       rcases Bool.eq_false_or_eq_true (decide (x8 > 0)) with g38 | g38
       ·replace hE_2 := if_tt g38 hE_2
        obtain ⟨t43, h43, hE_2⟩ := bind_some hE_2
        obtain ⟨t47, h47, hE_2⟩ := bind_some hE_2
        obtain ⟨t50, h50, hE_2⟩ := bind_some hE_2
        refine Tri.drawA mixedT Sep.up [(0, true), (1, true), (2, true), (3, true), (4, true), (5, true), (6, true), (7, true), (8, true), (9, true), (10, true), (11, true), (12, true), (13, true), (14, true), (15, true), (16, true), (17, true), (18, true), (19, true), (20, true), (21, true), (22, true), (23, true), (24, true), (25, true), (26, true), (27, true), (28, true), (29, true), (30, true), (31, true), (32, true), (33, true), (34, true), (35, true), (36, true), (37, true)] [] (by kernel_rfl) ?_
        refine S.qn rfl (r_move rfl) ?_
        refine S.qn rfl (r_move rfl) (S.qn rfl (r_indexAddrS Tryz.underlying25 ti3 rfl hl_va1 rfl (rdl_some h18).1 (rdl_some h18).2.1) (S.qn rfl (r_load ta3 rfl (fun w hw => cell_0 (Rd.flat ((fun _ hw => hr_a1.sep hw) w hw) (rdl_some h18).2.2) rfl)) (S.qn rfl (r_fieldAddr tf27_0 rfl) (S.qn rfl (r_load ta3 rfl (fun w hw => cell_1 (box_cells (i := 0) rfl w hw) rfl)) (S.qn rfl (r_sub rfl rfl) ?_)))))
        refine S.qcn rfl (q_callF (xs := _) rfl ok148 rfl rfl (fun w hw => spec_l1In.ok h23 w )) ?_
        refine S.qn rfl (r_not rfl) (S.qn rfl (r_move rfl) ?_)
        refine S.qg rfl g25 (r_move rfl) (S.qg rfl g25 (r_eql rfl rfl) (S.qg rfl g25 (r_move rfl) (S.qg rfl g28 (r_move rfl) (S.qg rfl g28 (r_indexAddrS Tryz.underlying25 ti3 rfl hl_va1 rfl (rdl_some h30).1 (rdl_some h30).2.1) (S.qg rfl g28 (r_load ta3 rfl (fun w hw => cell_0 (Rd.flat ((fun _ hw => hr_a1.sep hw) w hw) (rdl_some h30).2.2) rfl)) ?_)))))
        refine S.qg rfl g28 (r_neq rfl rfl) (S.qg rfl g25 (r_pick rfl rfl g28) (S.qn rfl (r_pickf rfl rfl g25) (S.qn rfl (r_move rfl) (S.qg rfl g35 (r_move rfl) (S.qg rfl g35 (r_gtr rfl rfl) ?_)))))
        refine S.qg rfl g35 (r_move rfl) (S.qg rfl g38 (r_loadA ta27 ti27 rfl rfl (fun w hw => (box_cells (i := 0) rfl w hw))) (S.qg rfl g38 (r_move rfl) (S.qg rfl g38 (r_move rfl) (S.qg rfl g38 (r_sub rfl rfl) (S.qg rfl g38 (r_indexAddrS Tryz.underlying25 ti3 rfl hl_va1 rfl (rdl_some h43).1 (rdl_some h43).2.1) ?_)))))
        refine S.qg rfl g38 (r_load ta3 rfl (fun w hw => cell_0 (Rd.flat ((fun _ hw => hr_a1.sep hw) w hw) (rdl_some h43).2.2) rfl)) (S.qg rfl g38 (r_move rfl) (S.qg rfl g38 (r_move rfl) (S.qg rfl g38 (r_indexAddrS Tryz.underlying25 ti3 rfl hl_va1 rfl (rdl_some h47).1 (rdl_some h47).2.1) (S.qg rfl g38 (r_load ta3 rfl (fun w hw => cell_0 (Rd.flat ((fun _ hw => hr_a1.sep hw) w hw) (rdl_some h47).2.2) rfl)) (S.qg rfl g38 (r_move rfl) ?_)))))
        refine S.qc rfl rfl rfl (wg rfl rfl rfl g38) (q_callF (xs := _) rfl ok241 rfl rfl (fun w hw => spec_l2Open.ok h50 w ((fun _ hw => hr_a0_1.sep hw) w hw) ((fun _ hw => hr_a0_2.sep hw) w hw))) ?_
        refine S.qg rfl g38 (r_not rfl) (S.qg rfl g35 (r_pick rfl rfl g38) (S.qn rfl (r_pickf rfl rfl g35) (S.nil (F.nil ?_))))
        cases hE_2
        refine Nrm.only [1, 2, 6, 7, 8, 53] rfl ?_
        refine Nrm.pick [0, 1] rfl rfl ?_
        exact hj_1 _ _ ⟨rfl, rfl⟩
       ·replace hE_2 := if_ff g38 hE_2
        refine Tri.drawA mixedT Sep.up [(0, true), (1, true), (2, true), (3, true), (4, true), (5, true), (6, true), (7, true), (8, true), (9, true), (10, true), (11, true), (12, true), (13, true), (14, true), (15, true), (16, true), (17, true), (18, true), (19, true), (20, true), (21, true), (22, true), (23, true), (24, true), (25, true), (26, true), (27, true), (28, true), (29, true), (30, true), (31, true), (32, true), (33, true), (34, true), (35, true), (36, true), (37, true)] [] (by kernel_rfl) ?_
        refine S.qn rfl (r_move rfl) ?_
        refine S.qn rfl (r_move rfl) (S.qn rfl (r_indexAddrS Tryz.underlying25 ti3 rfl hl_va1 rfl (rdl_some h18).1 (rdl_some h18).2.1) (S.qn rfl (r_load ta3 rfl (fun w hw => cell_0 (Rd.flat ((fun _ hw => hr_a1.sep hw) w hw) (rdl_some h18).2.2) rfl)) (S.qn rfl (r_fieldAddr tf27_0 rfl) (S.qn rfl (r_load ta3 rfl (fun w hw => cell_1 (box_cells (i := 0) rfl w hw) rfl)) (S.qn rfl (r_sub rfl rfl) ?_)))))
        refine S.qcn rfl (q_callF (xs := _) rfl ok148 rfl rfl (fun w hw => spec_l1In.ok h23 w )) ?_
        refine S.qn rfl (r_not rfl) (S.qn rfl (r_move rfl) (S.qg rfl g25 (r_move rfl) ?_))
        refine S.qg rfl g25 (r_eql rfl rfl) (S.qg rfl g25 (r_move rfl) (S.qg rfl g28 (r_move rfl) (S.qg rfl g28 (r_indexAddrS Tryz.underlying25 ti3 rfl hl_va1 rfl (rdl_some h30).1 (rdl_some h30).2.1) (S.qg rfl g28 (r_load ta3 rfl (fun w hw => cell_0 (Rd.flat ((fun _ hw => hr_a1.sep hw) w hw) (rdl_some h30).2.2) rfl)) (S.qg rfl g28 (r_neq rfl rfl) ?_)))))
        refine S.qg rfl g25 (r_pick rfl rfl g28) (S.qn rfl (r_pickf rfl rfl g25) (S.qn rfl (r_move rfl) (S.qg rfl g35 (r_move rfl) (S.qg rfl g35 (r_gtr rfl rfl) (S.qg rfl g35 (r_move rfl) ?_)))))
        iterate 13 refine S.skf rfl g38 ?_
        refine S.qg rfl g35 (r_pickf rfl rfl g38) (S.qn rfl (r_pickf rfl rfl g35) (S.nil (F.nil ?_)))
        cases hE_2
        refine Nrm.only [1, 2, 6, 7, 8, 53] rfl ?_
        refine Nrm.pick [0, 1] rfl rfl ?_
        exact hj_1 _ _ ⟨rfl, rfl⟩
     ·replace hE_2 := if_ff g28 hE_2
      rcases Bool.eq_false_or_eq_true (decide (x8 > 0)) with g38 | g38
      ·replace hE_2 := if_tt g38 hE_2
       obtain ⟨t43, h43, hE_2⟩ := bind_some hE_2
       obtain ⟨t47, h47, hE_2⟩ := bind_some hE_2
       obtain ⟨t50, h50, hE_2⟩ := bind_some hE_2
       refine Tri.drawA mixedT Sep.up [(0, true), (1, true), (2, true), (3, true), (4, true), (5, true), (6, true), (7, true), (8, true), (9, true), (10, true), (11, true), (12, true), (13, true), (14, true), (15, true), (16, true), (17, true), (18, true), (19, true), (20, true), (21, true), (22, true), (23, true), (24, true), (25, true), (26, true), (27, true), (28, true), (29, true), (30, true), (31, true), (32, true), (33, true), (34, true), (35, true), (36, true), (37, true)] [] (by kernel_rfl) ?_
       refine S.qn rfl (r_move rfl) ?_
       refine S.qn rfl (r_move rfl) (S.qn rfl (r_indexAddrS Tryz.underlying25 ti3 rfl hl_va1 rfl (rdl_some h18).1 (rdl_some h18).2.1) (S.qn rfl (r_load ta3 rfl (fun w hw => cell_0 (Rd.flat ((fun _ hw => hr_a1.sep hw) w hw) (rdl_some h18).2.2) rfl)) (S.qn rfl (r_fieldAddr tf27_0 rfl) (S.qn rfl (r_load ta3 rfl (fun w hw => cell_1 (box_cells (i := 0) rfl w hw) rfl)) (S.qn rfl (r_sub rfl rfl) ?_)))))
       refine S.qcn rfl (q_callF (xs := _) rfl ok148 rfl rfl (fun w hw => spec_l1In.ok h23 w )) ?_
       refine S.qn rfl (r_not rfl) (S.qn rfl (r_move rfl) (S.qg rfl g25 (r_move rfl) (S.qg rfl g25 (r_eql rfl rfl) (S.qg rfl g25 (r_move rfl) ?_))))
       iterate 4 refine S.skf rfl g28 ?_
       refine S.qg rfl g25 (r_pickf rfl rfl g28) (S.qn rfl (r_pickf rfl rfl g25) (S.qn rfl (r_move rfl) (S.qg rfl rfl (r_move rfl) (S.qg rfl rfl (r_gtr rfl rfl) ?_))))
       refine S.qg rfl rfl (r_move rfl) (S.qg rfl g38 (r_loadA ta27 ti27 rfl rfl (fun w hw => (box_cells (i := 0) rfl w hw))) (S.qg rfl g38 (r_move rfl) (S.qg rfl g38 (r_move rfl) (S.qg rfl g38 (r_sub rfl rfl) (S.qg rfl g38 (r_indexAddrS Tryz.underlying25 ti3 rfl hl_va1 rfl (rdl_some h43).1 (rdl_some h43).2.1) ?_)))))
       refine S.qg rfl g38 (r_load ta3 rfl (fun w hw => cell_0 (Rd.flat ((fun _ hw => hr_a1.sep hw) w hw) (rdl_some h43).2.2) rfl)) (S.qg rfl g38 (r_move rfl) (S.qg rfl g38 (r_move rfl) (S.qg rfl g38 (r_indexAddrS Tryz.underlying25 ti3 rfl hl_va1 rfl (rdl_some h47).1 (rdl_some h47).2.1) (S.qg rfl g38 (r_load ta3 rfl (fun w hw => cell_0 (Rd.flat ((fun _ hw => hr_a1.sep hw) w hw) (rdl_some h47).2.2) rfl)) (S.qg rfl g38 (r_move rfl) ?_)))))
       refine S.qc rfl rfl rfl (wg rfl rfl rfl g38) (q_callF (xs := _) rfl ok241 rfl rfl (fun w hw => spec_l2Open.ok h50 w ((fun _ hw => hr_a0_1.sep hw) w hw) ((fun _ hw => hr_a0_2.sep hw) w hw))) ?_
       refine S.qg rfl g38 (r_not rfl) (S.qg rfl rfl (r_pick rfl rfl g38) (S.qn rfl (r_pickf rfl rfl rfl) (S.nil (F.nil ?_))))
       cases hE_2
       refine Nrm.only [1, 2, 6, 7, 8, 53] rfl ?_
       refine Nrm.pick [0, 1] rfl rfl ?_
       exact hj_1 _ _ ⟨rfl, rfl⟩
      ·replace hE_2 := if_ff g38 hE_2
       refine Tri.drawA mixedT Sep.up [(0, true), (1, true), (2, true), (3, true), (4, true), (5, true), (6, true), (7, true), (8, true), (9, true), (10, true), (11, true), (12, true), (13, true), (14, true), (15, true), (16, true), (17, true), (18, true), (19, true), (20, true), (21, true), (22, true), (23, true), (24, true), (25, true), (26, true), (27, true), (28, true), (29, true), (30, true), (31, true), (32, true), (33, true), (34, true), (35, true), (36, true), (37, true)] [] (by kernel_rfl) ?_
       refine S.qn rfl (r_move rfl) ?_
       refine S.qn rfl (r_move rfl) (S.qn rfl (r_indexAddrS Tryz.underlying25 ti3 rfl hl_va1 rfl (rdl_some h18).1 (rdl_some h18).2.1) (S.qn rfl (r_load ta3 rfl (fun w hw => cell_0 (Rd.flat ((fun _ hw => hr_a1.sep hw) w hw) (rdl_some h18).2.2) rfl)) (S.qn rfl (r_fieldAddr tf27_0 rfl) (S.qn rfl (r_load ta3 rfl (fun w hw => cell_1 (box_cells (i := 0) rfl w hw) rfl)) (S.qn rfl (r_sub rfl rfl) ?_)))))
       refine S.qcn rfl (q_callF (xs := _) rfl ok148 rfl rfl (fun w hw => spec_l1In.ok h23 w )) ?_
       refine S.qn rfl (r_not rfl) (S.qn rfl (r_move rfl) (S.qg rfl g25 (r_move rfl) (S.qg rfl g25 (r_eql rfl rfl) (S.qg rfl g25 (r_move rfl) ?_))))
       iterate 4 refine S.skf rfl g28 ?_
       refine S.qg rfl g25 (r_pickf rfl rfl g28) (S.qn rfl (r_pickf rfl rfl g25) (S.qn rfl (r_move rfl) (S.qg rfl rfl (r_move rfl) (S.qg rfl rfl (r_gtr rfl rfl) (S.qg rfl rfl (r_move rfl) ?_)))))
       iterate 13 refine S.skf rfl g38 ?_
       refine S.qg rfl rfl (r_pickf rfl rfl g38) (S.qn rfl (r_pickf rfl rfl rfl) (S.nil (F.nil ?_)))
       cases hE_2
       refine Nrm.only [1, 2, 6, 7, 8, 53] rfl ?_
       refine Nrm.pick [0, 1] rfl rfl ?_
       exact hj_1 _ _ ⟨rfl, rfl⟩
  ·replace hE_1 := if_ff g_1 hE_1
   refine Tri.exit ?_
   refine Exi.then ?_
   refine Exi.then ?_
   refine Exi.same ?_
   cases hE_1
   replace h := Lr_inl h
   refine Nrm.seq (Tri.seq (Tri.reg (l := [0, 1, 2, 3, 4, 5]) rfl ?_))
   refine F.qn rfl (r_move rfl) (F.qn rfl (r_move rfl) (F.qn rfl (r_len Tryz.underlying25 rfl hl_w6) (F.qn rfl (r_gtr rfl rfl) (F.qn rfl (r_assign rfl) (F.qn rfl (r_assign rfl) (F.nil (Nrm.seq (Tri.ret ?_))))))))
   cases h
   exact Rtn.body (.tmp rfl (.tmp rfl .nil)) (fun w hw => ⟨_, _, rfl, ⟨w6, T6, rfl, hl_w6, rfl⟩, Sep.pick (is := [1]) rfl rfl hw⟩)


def spec_l12Good.f (k : Nat) (a0_0 : Int) (a0_1 : List (Int × Int × Int)) (a0_2 : List Int) (a0_3 : List Int) (a0_4 : Int) : Option (Bool) := ((spec_l2Maze.f k a0_0 a0_1 a0_2).bind fun t7 => (if (!t7) = true then some true else (if (decide ((a0_3.length : Int) > 60)) = true then some true else (spec_l1In.f k a0_4 0 1000).bind fun t18 => some (!t18)))).bind fun y20 => (if y20 = true then some false else (spec_l2Taken.f k a0_0 a0_1 a0_2 a0_3).bind fun (t26_1, t26_2) => some t26_2)

theorem spec_l12Good.ok {k : Nat}  {a0_0 : Int} {a0_1 : List (Int × Int × Int)} {a0_2 : List Int} {a0_3 : List Int} {a0_4 : Int} {r0 : Bool} (h : spec_l12Good.f k a0_0 a0_1 a0_2 a0_3 a0_4 = some r0) (w : World) {va0_1 : Value} {va0_2 : Value} {va0_3 : Value} (hr_a0_1 : Rd w va0_1 a0_1) (hr_a0_2 : Rd w va0_2 a0_2) (hr_a0_3 : Rd w va0_3 a0_3) :
  Calls Tryz.prog 113 ([.agg ([.int .i64 a0_0, va0_1, va0_2, va0_3, .int .i64 a0_4].toArray)] : List Value).toArray w (fun e w' => e = .returned (.bool r0) ∧ Ext w w') := by
 unfold spec_l12Good.f at h
 have hl_va0_1 := hr_a0_1.len
 have hl_va0_2 := hr_a0_2.len
 have hl_va0_3 := hr_a0_3.len
 refine Calls.of_tri (N := 30) Tryz.func113 rfl rfl rfl (Sep.nil (M := noM)) ?_
 refine Tri.seq (Tri.reg (l := [0, 1]) rfl ?_)
 refine F.mn rfl (m_boxG rfl rfl) ?_
 rintro _ _ ⟨b1_1, rfl, rfl⟩
 refine F.qn rfl (r_assign rfl) (F.nil (Nrm.seq (Tri.seq (Tri.seq ?_))))
 obtain ⟨y20, hE_1, h⟩ := bind_some h
 refine Tri.cut (fun e' C' => e' = [(1, .pointer (some ⟨b1_1, 0, none⟩)), (20, .bool y20)] ∧ C' = Sep w noM [R.box b1_1 44 [.int .i64 a0_0, va0_1, va0_2, va0_3, .int .i64 a0_4]]) ?_ (fun hj_1 => ?_)
 ·rintro _ _ ⟨rfl, rfl⟩
  refine Nrm.seq (Tri.cond (b := y20) rfl (fun g_1 => ?_) (fun g_1 => ?_))
  ·replace h := if_tt g_1 h
   refine Tri.seq (Tri.reg (l := [0]) rfl ?_)
   refine F.qn rfl (r_assign rfl) (F.nil (Nrm.seq (Tri.ret ?_)))
   refine Rtn.then ?_
   cases h
   exact Rtn.body (.tmp rfl .nil) (fun w hw => ⟨rfl, hw.ext⟩)
  ·replace h := if_ff g_1 h
   refine Tri.skip (Nrm.seq (Tri.seq ?_))
   obtain ⟨⟨t26_1, t26_2⟩, h26, h⟩ := bind_some h
   refine Tri.reg (l := [0, 1, 2, 3, 4, 5, 6, 7, 8, 9]) rfl ?_
   refine F.qn rfl (r_fieldAddr tf44_0 rfl) (F.qn rfl (r_loadA ta27 ti27 rfl rfl (fun w hw => cells_1 (cs' := [.int .i64 a0_0, va0_1, va0_2]) (box_cells (i := 0) rfl w hw) rfl)) (F.qn rfl (r_fieldAddr tf44_1 rfl) (F.qn rfl (r_load ta25 rfl (fun w hw => cell_1 (box_cells (i := 0) rfl w hw) rfl)) ?_)))
   refine F.mn rfl (m_callF (xs := _) rfl ok204 rfl rfl (fun w hw => spec_l2Taken.ok h26 w ((fun _ hw => hr_a0_1.sep hw) w hw) ((fun _ hw => hr_a0_2.sep hw) w hw) ((fun _ hw => hr_a0_3.sep hw) w hw))) ?_
   rintro _ _ ⟨_, ⟨v26_1, S26_1, rfl, hl_v26_1, rfl⟩, rfl⟩
   refine F.qn rfl (r_move rfl) (F.qn rfl (r_extract rfl rfl) (F.qn rfl (r_extract rfl rfl) (F.qn rfl (r_assign rfl) (F.qn rfl (r_assign rfl) (F.nil (Nrm.seq (Tri.seq (Tri.reg (l := [0, 1]) rfl ?_))))))))
   refine F.qn rfl (r_move rfl) (F.qn rfl (r_assign rfl) (F.nil (Nrm.seq (Tri.ret ?_))))
   cases h
   exact Rtn.body (.tmp rfl .nil) (fun w hw => ⟨rfl, hw.ext⟩)
 ·obtain ⟨t7, h7, hE_1⟩ := bind_some hE_1
  rcases Bool.eq_false_or_eq_true (!t7) with g9 | g9
  ·replace hE_1 := if_tt g9 hE_1
   refine Tri.reg (l := List.range 16) rfl ?_
   refine F.qn rfl (r_fieldAddr tf44_0 rfl) (F.qn rfl (r_loadA ta27 ti27 rfl rfl (fun w hw => cells_1 (cs' := [.int .i64 a0_0, va0_1, va0_2]) (box_cells (i := 0) rfl w hw) rfl)) ?_)
   refine F.qcn rfl (q_callF (xs := _) rfl ok108 rfl rfl (fun w hw => spec_l2Maze.ok h7 w ((fun _ hw => hr_a0_1.sep hw) w hw) ((fun _ hw => hr_a0_2.sep hw) w hw))) ?_
   refine F.qn rfl (r_not rfl) (F.qn rfl (r_move rfl) ?_)
   iterate 4 refine F.skf rfl g9 ?_
   refine F.qn rfl (r_pick rfl rfl g9) (F.qn rfl (r_move rfl) ?_)
   iterate 4 refine F.skf rfl rfl ?_
   refine F.qn rfl (r_pick rfl rfl rfl) (F.nil ?_)
   cases hE_1
   refine Nrm.only [1, 20] rfl ?_
   refine Nrm.pick [0] rfl rfl ?_
   exact hj_1 _ _ ⟨rfl, rfl⟩
  ·replace hE_1 := if_ff g9 hE_1
   rcases Bool.eq_false_or_eq_true (decide ((a0_3.length : Int) > 60)) with g15 | g15
   ·replace hE_1 := if_tt g15 hE_1
    refine Tri.reg (l := List.range 16) rfl ?_
    refine F.qn rfl (r_fieldAddr tf44_0 rfl) (F.qn rfl (r_loadA ta27 ti27 rfl rfl (fun w hw => cells_1 (cs' := [.int .i64 a0_0, va0_1, va0_2]) (box_cells (i := 0) rfl w hw) rfl)) ?_)
    refine F.qcn rfl (q_callF (xs := _) rfl ok108 rfl rfl (fun w hw => spec_l2Maze.ok h7 w ((fun _ hw => hr_a0_1.sep hw) w hw) ((fun _ hw => hr_a0_2.sep hw) w hw))) ?_
    refine F.qn rfl (r_not rfl) (F.qn rfl (r_move rfl) ?_)
    refine F.qg rfl g9 (r_fieldAddr tf44_1 rfl) (F.qg rfl g9 (r_load ta25 rfl (fun w hw => cell_1 (box_cells (i := 0) rfl w hw) rfl)) (F.qg rfl g9 (r_len Tryz.underlying25 rfl hl_va0_3) (F.qg rfl g9 (r_gtr rfl rfl) (F.qn rfl (r_pickf rfl rfl g9) (F.qn rfl (r_move rfl) ?_)))))
    iterate 4 refine F.skf rfl g15 ?_
    refine F.qn rfl (r_pick rfl rfl g15) (F.nil ?_)
    cases hE_1
    refine Nrm.only [1, 20] rfl ?_
    refine Nrm.pick [0] rfl rfl ?_
    exact hj_1 _ _ ⟨rfl, rfl⟩
   ·replace hE_1 := if_ff g15 hE_1
    obtain ⟨t18, h18, hE_1⟩ := bind_some hE_1
    refine Tri.reg (l := List.range 16) rfl ?_
    refine F.qn rfl (r_fieldAddr tf44_0 rfl) (F.qn rfl (r_loadA ta27 ti27 rfl rfl (fun w hw => cells_1 (cs' := [.int .i64 a0_0, va0_1, va0_2]) (box_cells (i := 0) rfl w hw) rfl)) ?_)
    refine F.qcn rfl (q_callF (xs := _) rfl ok108 rfl rfl (fun w hw => spec_l2Maze.ok h7 w ((fun _ hw => hr_a0_1.sep hw) w hw) ((fun _ hw => hr_a0_2.sep hw) w hw))) ?_
    refine F.qn rfl (r_not rfl) (F.qn rfl (r_move rfl) (F.qg rfl g9 (r_fieldAddr tf44_1 rfl) (F.qg rfl g9 (r_load ta25 rfl (fun w hw => cell_1 (box_cells (i := 0) rfl w hw) rfl)) ?_)))
    refine F.qg rfl g9 (r_len Tryz.underlying25 rfl hl_va0_3) (F.qg rfl g9 (r_gtr rfl rfl) (F.qn rfl (r_pickf rfl rfl g9) (F.qn rfl (r_move rfl) (F.qg rfl g15 (r_fieldAddr tf44_2 rfl) (F.qg rfl g15 (r_load ta3 rfl (fun w hw => cell_1 (box_cells (i := 0) rfl w hw) rfl)) ?_)))))
    refine F.qc rfl rfl rfl (wg rfl rfl rfl g15) (q_callF (xs := _) rfl ok148 rfl rfl (fun w hw => spec_l1In.ok h18 w )) ?_
    refine F.qg rfl g15 (r_not rfl) (F.qn rfl (r_pickf rfl rfl g15) (F.nil ?_))
    cases hE_1
    refine Nrm.only [1, 20] rfl ?_
    refine Nrm.pick [0] rfl rfl ?_
    exact hj_1 _ _ ⟨rfl, rfl⟩


def spec_l12Has.f (k : Nat) (a0_0 : Int) (a0_1 : List (Int × Int × Int)) (a0_2 : List Int) (a0_3 : List Int) (a0_4 : Int) : Option (Int) := (spec_l2Taken.f k a0_0 a0_1 a0_2 a0_3).bind fun (t10_1, t10_2) => (rdl t10_1 (w64 ((t10_1.length : Int) - 1))).bind fun t17 => some t17

theorem spec_l12Has.ok {k : Nat}  {a0_0 : Int} {a0_1 : List (Int × Int × Int)} {a0_2 : List Int} {a0_3 : List Int} {a0_4 : Int} {r0 : Int} (h : spec_l12Has.f k a0_0 a0_1 a0_2 a0_3 a0_4 = some r0) (w : World) {va0_1 : Value} {va0_2 : Value} {va0_3 : Value} (hr_a0_1 : Rd w va0_1 a0_1) (hr_a0_2 : Rd w va0_2 a0_2) (hr_a0_3 : Rd w va0_3 a0_3) :
  Calls Tryz.prog 118 ([.agg ([.int .i64 a0_0, va0_1, va0_2, va0_3, .int .i64 a0_4].toArray)] : List Value).toArray w (fun e w' => e = .returned (.int .i64 r0) ∧ Ext w w') := by
 unfold spec_l12Has.f at h
 have hl_va0_1 := hr_a0_1.len
 have hl_va0_2 := hr_a0_2.len
 have hl_va0_3 := hr_a0_3.len
 refine Calls.of_tri (N := 19) Tryz.func118 rfl rfl rfl (Sep.nil (M := noM)) ?_
 refine Tri.seq (Tri.reg (l := [0, 1]) rfl ?_)
 refine F.mn rfl (m_boxG rfl rfl) ?_
 rintro _ _ ⟨b1_1, rfl, rfl⟩
 refine F.qn rfl (r_assign rfl) (F.nil (Nrm.seq (Tri.seq ?_)))
 obtain ⟨⟨t10_1, t10_2⟩, h10, h⟩ := bind_some h
 refine Tri.reg (l := [0, 1, 2, 3, 4, 5, 6, 7, 8, 9]) rfl ?_
 refine F.qn rfl (r_fieldAddr tf44_0 rfl) (F.qn rfl (r_loadA ta27 ti27 rfl rfl (fun w hw => cells_1 (cs' := [.int .i64 a0_0, va0_1, va0_2]) (box_cells (i := 0) rfl w hw) rfl)) (F.qn rfl (r_fieldAddr tf44_1 rfl) (F.qn rfl (r_load ta25 rfl (fun w hw => cell_1 (box_cells (i := 0) rfl w hw) rfl)) ?_)))
 refine F.mn rfl (m_callF (xs := _) rfl ok204 rfl rfl (fun w hw => spec_l2Taken.ok h10 w ((fun _ hw => hr_a0_1.sep hw) w hw) ((fun _ hw => hr_a0_2.sep hw) w hw) ((fun _ hw => hr_a0_3.sep hw) w hw))) ?_
 rintro _ _ ⟨_, ⟨v10_1, S10_1, rfl, hl_v10_1, rfl⟩, rfl⟩
 refine F.qn rfl (r_move rfl) (F.qn rfl (r_extract rfl rfl) (F.qn rfl (r_extract rfl rfl) (F.qn rfl (r_assign rfl) (F.qn rfl (r_assign rfl) (F.nil (Nrm.seq (Tri.seq ?_)))))))
 obtain ⟨t17, h17, h⟩ := bind_some h
 refine Tri.reg (l := [0, 1, 2, 3, 4, 5, 6]) rfl ?_
 refine F.qn rfl (r_move rfl) ?_
 refine F.qn rfl (r_move rfl) (F.qn rfl (r_len Tryz.underlying25 rfl hl_v10_1) (F.qn rfl (r_sub rfl rfl) (F.qn rfl (r_indexAddrS Tryz.underlying25 ti3 rfl hl_v10_1 rfl (rdl_some h17).1 (rdl_some h17).2.1) (F.qn rfl (r_load ta3 rfl (fun w hw => cell_0 (Rd.flat ((rd_sl (i := 0) rfl) w hw) (rdl_some h17).2.2) rfl)) (F.qn rfl (r_assign rfl) (F.nil (Nrm.seq (Tri.ret ?_))))))))
 cases h
 exact Rtn.body (.tmp rfl .nil) (fun w hw => ⟨rfl, hw.ext⟩)


def spec_l1Has.l0 (k : Nat) (a0 : List Int) (a1 : Int) : Nat → Int → Option ((Unit) ⊕ (Bool))
 | 0, _ => none
 | n + 1, x5 => (if (decide (x5 < (a0.length : Int))) = true then (rdl a0 x5).bind fun t14 => (if (t14 == a1) = true then some (Sum.inr true) else spec_l1Has.l0 k a0 a1 n (w64 (x5 + 1))) else some (Sum.inl ()))

def spec_l1Has.f (k : Nat) (a0 : List Int) (a1 : Int) : Option (Bool) := (spec_l1Has.l0 k a0 a1 k 0).bind fun s => Lr s some fun _ => some false

theorem spec_l1Has.ok {k : Nat}  {a0 : List Int} {a1 : Int} {r0 : Bool} (h : spec_l1Has.f k a0 a1 = some r0) (w : World) {va0 : Value} (hr_a0 : Rd w va0 a0) :
  Calls Tryz.prog 149 ([va0, .int .i64 a1] : List Value).toArray w (fun e w' => e = .returned (.bool r0) ∧ Ext w w') := by
 unfold spec_l1Has.f at h
 have hl_va0 := hr_a0.len
 refine Calls.of_tri (N := 18) Tryz.func149 rfl rfl rfl (Sep.nil (M := noM)) ?_
 refine Tri.seq (Tri.reg (l := [0]) rfl ?_)
 refine F.qn rfl (r_assign rfl) (F.nil (Nrm.seq (Tri.seq (Tri.seq (Tri.reg (l := [0]) rfl ?_)))))
 refine F.qn rfl (r_assign rfl) (F.nil (Nrm.seq ?_))
 obtain ⟨s0, hE_1, h⟩ := bind_some h
 refine Tri.block ?_
 refine Tri.only [0, 1, 5] rfl ?_
 refine Tri.pick [] rfl rfl ?_
 refine Tri.rounds (fun n e' C' => ∃ (x5' : Int), spec_l1Has.l0 k a0 a1 n x5' = some s0 ∧ e' = [(0, va0), (1, .int .i64 a1), (5, .int .i64 x5')] ∧ C' = Sep w noM []) k ?_ ?_ ?_
 ·exact ⟨0, hE_1, rfl, rfl⟩
 ·rintro _ _ ⟨_, hE_1, _⟩
  rw [spec_l1Has.l0.eq_1] at hE_1; cases hE_1
 ·rintro n_1 _ _ ⟨x5, hE_1, rfl, rfl⟩ ih_1
  rw [spec_l1Has.l0.eq_2] at hE_1
  refine Tri.seq (Tri.seq (Tri.reg (l := [0, 1, 2, 3]) rfl ?_))
  refine F.qn rfl (r_move rfl) (F.qn rfl (r_move rfl) (F.qn rfl (r_len Tryz.underlying25 rfl hl_va0) (F.qn rfl (r_lss rfl rfl) (F.nil (Nrm.seq (Tri.cond (b := decide (x5 < (a0.length : Int))) rfl (fun g_1 => ?_) (fun g_1 => ?_)))))))
  ·replace hE_1 := if_tt g_1 hE_1
   refine Tri.skip (Nrm.seq (Tri.seq (Tri.block ?_)))
   refine Tri.seq ?_
   obtain ⟨t14, h14, hE_1⟩ := bind_some hE_1
   refine Tri.reg (l := [0, 1, 2, 3, 4, 5]) rfl ?_
   refine F.qn rfl (r_move rfl) (F.qn rfl (r_move rfl) (F.qn rfl (r_indexAddrS Tryz.underlying25 ti3 rfl hl_va0 rfl (rdl_some h14).1 (rdl_some h14).2.1) (F.qn rfl (r_load ta3 rfl (fun w hw => cell_0 (Rd.flat ((fun _ hw => hr_a0.sep hw) w hw) (rdl_some h14).2.2) rfl)) (F.qn rfl (r_move rfl) (F.qn rfl (r_eql rfl rfl) (F.nil (Nrm.seq (Tri.cond (b := t14 == a1) rfl (fun g_2 => ?_) (fun g_2 => ?_)))))))))
   ·replace hE_1 := if_tt g_2 hE_1
    refine Tri.seq (Tri.reg (l := [0]) rfl ?_)
    refine F.qn rfl (r_assign rfl) (F.nil (Nrm.seq (Tri.ret ?_)))
    refine Rtn.block ?_
    refine Rtn.then ?_
    refine Rtn.then ?_
    refine Rtn.block ?_
    refine Rtn.then ?_
    cases hE_1
    replace h := Lr_inr h
    cases h
    exact Rtn.body (.tmp rfl .nil) (fun w hw => ⟨rfl, hw.ext⟩)
   ·replace hE_1 := if_ff g_2 hE_1
    refine Tri.skip (Nrm.block ?_)
    refine Nrm.seq (Tri.reg (l := [0, 1, 2]) rfl ?_)
    refine F.qn rfl (r_move rfl) (F.qn rfl (r_add rfl rfl) (F.qn rfl (r_assign rfl) (F.nil (Nrm.round ?_))))
    refine Rnd.only [0, 1, 5] rfl ?_
    refine Rnd.pick [] rfl rfl ?_
    exact ih_1 _ _ ⟨w64 (x5 + 1), hE_1, rfl, rfl⟩
  ·replace hE_1 := if_ff g_1 hE_1
   refine Tri.exit ?_
   refine Exi.then ?_
   refine Exi.then ?_
   refine Exi.same ?_
   cases hE_1
   replace h := Lr_inl h
   refine Nrm.seq (Tri.seq (Tri.reg (l := [0]) rfl ?_))
   refine F.qn rfl (r_assign rfl) (F.nil (Nrm.seq (Tri.ret ?_)))
   cases h
   exact Rtn.body (.tmp rfl .nil) (fun w hw => ⟨rfl, hw.ext⟩)


def spec_l1Put.l0 (k : Nat) (a0 : List Int) (a1 : Int) : Nat → Int → Option (Int)
 | 0, _ => none
 | n + 1, x5 => ((if (decide (x5 < (a0.length : Int))) = true then (rdl a0 x5).bind fun t13 => some (decide (t13 < a1)) else some false)).bind fun y17 => (if y17 = true then spec_l1Put.l0 k a0 a1 n (w64 (x5 + 1)) else some x5)

def spec_l1Put.f (k : Nat) (a0 : List Int) (a1 : Int) : Option ((List Int)) := (spec_l1Put.l0 k a0 a1 k 0).bind fun x5 => ((if (decide (x5 < (a0.length : Int))) = true then (rdl a0 x5).bind fun t27 => some (t27 == a1) else some false)).bind fun y31 => (if y31 = true then some a0 else ((slc a0 0 x5).bind fun t36 => (slc a0 x5 (a0.length : Int)).bind fun t43 => if (([] : List (Int)) ++ t36).length < 1099511627776 then if ((([] : List (Int)) ++ t36) ++ ([a1] : List (Int))).length < 1099511627776 then if (((([] : List (Int)) ++ t36) ++ ([a1] : List (Int))) ++ t43).length < 1099511627776 then some (((([] : List (Int)) ++ t36) ++ ([a1] : List (Int))) ++ t43) else none else none else none).bind fun y4 => some y4)

theorem spec_l1Put.ok {k : Nat}  {a0 : List Int} {a1 : Int} {r0 : List Int} (h : spec_l1Put.f k a0 a1 = some r0) (w : World) {va0 : Value} {Sa0 : Nat → Prop} (hl_va0 : SlLen va0 a0.length) (hw0 : Sep w (footM [R.sl Sa0 va0 a0]) [R.sl Sa0 va0 a0] w) :
  Calls Tryz.prog 244 ([va0, .int .i64 a1] : List Value).toArray w (PostM (footM [R.sl Sa0 va0 a0]) (fun u ns => ∃ (Sr0 : Nat → Prop), SlLen u r0.length ∧ ns = [R.sl Sr0 u r0]) w) := by
 unfold spec_l1Put.f at h
 refine Calls.of_tri (N := 45) Tryz.func244 rfl rfl rfl hw0 ?_
 refine Tri.seq (Tri.reg (l := [0]) rfl ?_)
 refine F.qn rfl (r_assign rfl) (F.nil (Nrm.seq (Tri.seq (Tri.reg (l := [0]) rfl ?_))))
 refine F.qn rfl (r_assign rfl) (F.nil (Nrm.seq (Tri.seq ?_)))
 obtain ⟨x5, hE_1, h⟩ := bind_some h
 refine Tri.block ?_
 refine Tri.only [0, 1, 5] rfl ?_
 refine Tri.pick [0] rfl rfl ?_
 refine Tri.rounds (fun n e' C' => ∃ (x5' : Int), spec_l1Put.l0 k a0 a1 n x5' = some x5 ∧ e' = [(0, va0), (1, .int .i64 a1), (5, .int .i64 x5')] ∧ C' = Sep w (footM [R.sl Sa0 va0 a0]) [R.sl Sa0 va0 (a0 : List (Int))]) k ?_ ?_ ?_
 ·exact ⟨0, hE_1, rfl, rfl⟩
 ·rintro _ _ ⟨_, hE_1, _⟩
  rw [spec_l1Put.l0.eq_1] at hE_1; cases hE_1
 ·rintro n_1 _ _ ⟨x5, hE_1, rfl, rfl⟩ ih_1
  rw [spec_l1Put.l0.eq_2] at hE_1
  refine Tri.seq (Tri.seq ?_)
  obtain ⟨y17, hE_2, hE_1⟩ := bind_some hE_1
  refine Tri.cut (fun e' C' => e' = [(0, va0), (1, .int .i64 a1), (5, .int .i64 x5), (17, .bool y17)] ∧ C' = Sep w (footM [R.sl Sa0 va0 a0]) [R.sl Sa0 va0 (a0 : List (Int))]) ?_ (fun hj_1 => ?_)
  ·rintro _ _ ⟨rfl, rfl⟩
   refine Nrm.seq (Tri.cond (b := y17) rfl (fun g_1 => ?_) (fun g_1 => ?_))
   ·replace hE_1 := if_tt g_1 hE_1
    refine Tri.skip (Nrm.seq (Tri.block ?_))
    refine Tri.reg (l := [0, 1, 2]) rfl ?_
    refine F.qn rfl (r_move rfl) (F.qn rfl (r_add rfl rfl) (F.qn rfl (r_assign rfl) (F.nil (Nrm.block ?_))))
    refine Nrm.round ?_
    refine Rnd.only [0, 1, 5] rfl ?_
    refine Rnd.pick [0] rfl rfl ?_
    exact ih_1 _ _ ⟨w64 (x5 + 1), hE_1, rfl, rfl⟩
   ·replace hE_1 := if_ff g_1 hE_1
    refine Tri.exit ?_
    refine Exi.then ?_
    refine Exi.then ?_
    refine Exi.same ?_
    cases hE_1
    refine Nrm.seq (Tri.seq (Tri.seq ?_))
    obtain ⟨y31, hE_3, h⟩ := bind_some h
    refine Tri.cut (fun e' C' => e' = [(0, va0), (1, .int .i64 a1), (5, .int .i64 x5), (31, .bool y31)] ∧ C' = Sep w (footM [R.sl Sa0 va0 a0]) [R.sl Sa0 va0 (a0 : List (Int))]) ?_ (fun hj_2 => ?_)
    ·rintro _ _ ⟨rfl, rfl⟩
     refine Nrm.seq (Tri.cond (b := y31) rfl (fun g_2 => ?_) (fun g_2 => ?_))
     ·replace h := if_tt g_2 h
      refine Tri.seq (Tri.reg (l := [0, 1]) rfl ?_)
      refine F.qn rfl (r_move rfl) (F.qn rfl (r_assign rfl) (F.nil (Nrm.seq (Tri.ret ?_))))
      refine Rtn.then ?_
      cases h
      exact Rtn.body (.tmp rfl .nil) (fun w hw => ⟨_, _, rfl, ⟨Sa0, hl_va0, rfl⟩, Sep.pick (is := [0]) rfl rfl hw⟩)
     ·replace h := if_ff g_2 h
      refine Tri.skip (Nrm.seq (Tri.seq ?_))
      obtain ⟨y4, hE_4, h⟩ := bind_some h
      refine Tri.cut (fun e' C' => ∃ (v4_1 : Value) (S4_1 : Nat → Prop), SlLen v4_1 (y4).length ∧ e' = [(4, v4_1)] ∧ C' = Sep w (footM [R.sl Sa0 va0 a0]) [R.sl S4_1 v4_1 (y4 : List (Int))]) ?_ (fun hj_3 => ?_)
      ·rintro _ _ ⟨v4_1, S4_1, hl_v4_1, rfl, rfl⟩
       refine Nrm.seq (Tri.ret ?_)
       cases h
       exact Rtn.body (.tmp rfl .nil) (fun w hw => ⟨_, _, rfl, ⟨S4_1, hl_v4_1, rfl⟩, Sep.pick (is := [0]) rfl rfl hw⟩)
      ·obtain ⟨t36, h36, hE_4⟩ := bind_some hE_4
       obtain ⟨t43, h43, hE_4⟩ := bind_some hE_4
       obtain ⟨hs37, hE_4⟩ := ck hE_4
       obtain ⟨hs40, hE_4⟩ := ck hE_4
       obtain ⟨hs44, hE_4⟩ := ck hE_4
       refine Tri.drawT mixedT Sep.up [1, 2, 3, 5, 8, 9, 10, 0, 4, 6, 7] [11, 12] (.q 1 (.q 2 (.q 3 (.q 5 (.q 8 (.q 9 (.q 10 (.alt 0 (.alt 4 (.alt 6 (.alt 7 .nil .stop) .stop) (.alt 6 (.alt 4 (.alt 7 .nil .stop) .stop) .stop)) (.alt 6 (.alt 0 (.alt 4 (.alt 7 .nil .stop) .stop) .stop) .stop))))))))) (by kernel_rfl) ?_
       refine T.q rfl rfl rfl (wanted_none rfl) (r_move rfl) ?_
       refine T.q rfl rfl rfl (wanted_none rfl) (r_move rfl) ?_
       refine T.q rfl rfl rfl (wanted_none rfl) (r_sliceH Tryz.underlying25 ti3 rfl (rd_sl (i := 0) rfl) rfl h36) ?_
       iterate 3 refine T.q rfl rfl rfl (wanted_none rfl) (r_move rfl) ?_
       refine T.q rfl rfl rfl (wanted_none rfl) (r_sliceL Tryz.underlying25 ti3 rfl (rd_sl (i := 0) rfl) rfl h43) ?_
       refine T.ef rfl rfl rfl (wanted_none rfl) (Makes.does (m_build0 (α := Int) Tryz.underlying25 ti3)) (by rintro v33_2 _ ⟨S33_2, hl_v33_2, rfl⟩; exact upd rfl [1] rfl rfl) ?_ ?_
       ·rintro v33_2 _ ⟨S33_2, hl_v33_2, rfl⟩
        refine T.ef rfl rfl rfl (wanted_none rfl) (d_append (i := 0) Tryz.underlying25 Tryz.underlying25 ti3 rfl (by decide) rfl rfl rfl (fun w hw => rd_slc ((rd_sl (i := 1) rfl) w hw) h36) hs37) (by rintro v37_2 _ ⟨S37_2, rfl, hl_v37_2⟩; exact upd rfl [1] rfl rfl) ?_ ?_
        ·rintro v37_2 _ ⟨S37_2, rfl, hl_v37_2⟩
         refine T.ef rfl rfl rfl (wanted_none rfl) (Makes.does (m_buildF (l := ([a1] : List (Int))) Tryz.underlying25 ti3 rfl rfl rfl rfl rfl)) (by rintro v39_2 _ ⟨S39_2, hl_v39_2, rfl⟩; exact upd rfl [2] rfl rfl) ?_ ?_
         ·rintro v39_2 _ ⟨S39_2, hl_v39_2, rfl⟩
          refine T.ef rfl rfl rfl (wanted_none rfl) (d_append (i := 1) Tryz.underlying25 Tryz.underlying25 ti3 rfl (by decide) rfl rfl rfl (rd_sl (i := 0) rfl) hs40) (by rintro v40_2 _ ⟨S40_2, rfl, hl_v40_2⟩; exact upd rfl [2] rfl rfl) ?_ ?_
          ·rintro v40_2 _ ⟨S40_2, rfl, hl_v40_2⟩
           refine T.nil ?_
           refine F.efn rfl (d_append (i := 1) Tryz.underlying25 Tryz.underlying25 ti3 rfl (by decide) rfl rfl rfl (fun w hw => rd_slc ((rd_sl (i := 2) rfl) w hw) h43) hs44) ?_
           rintro v44_2 _ ⟨S44_2, rfl, hl_v44_2⟩
           refine F.qn rfl (r_assign rfl) (F.nil ?_)
           cases hE_4
           refine Nrm.only [4] rfl ?_
           refine Nrm.pick [1] rfl rfl ?_
           exact hj_3 _ _ ⟨v44_2, S44_2, hl_v44_2, rfl, rfl⟩
          exact T.stop
         exact T.stop
        ·refine T.ef rfl rfl rfl (wanted_none rfl) (Makes.does (m_buildF (l := ([a1] : List (Int))) Tryz.underlying25 ti3 rfl rfl rfl rfl rfl)) (by rintro v39_3 _ ⟨S39_3, hl_v39_3, rfl⟩; exact upd rfl [2] rfl rfl) ?_ ?_
         ·rintro v39_3 _ ⟨S39_3, hl_v39_3, rfl⟩
          refine T.ef rfl rfl rfl (wanted_none rfl) (d_append (i := 1) Tryz.underlying25 Tryz.underlying25 ti3 rfl (by decide) rfl rfl rfl (fun w hw => rd_slc ((rd_sl (i := 2) rfl) w hw) h36) hs37) (by rintro v37_3 _ ⟨S37_3, rfl, hl_v37_3⟩; exact upd rfl [2] rfl rfl) ?_ ?_
          ·rintro v37_3 _ ⟨S37_3, rfl, hl_v37_3⟩
           refine T.ef rfl rfl rfl (wanted_none rfl) (d_append (i := 1) Tryz.underlying25 Tryz.underlying25 ti3 rfl (by decide) rfl rfl rfl (rd_sl (i := 0) rfl) hs40) (by rintro v40_3 _ ⟨S40_3, rfl, hl_v40_3⟩; exact upd rfl [2] rfl rfl) ?_ ?_
           ·rintro v40_3 _ ⟨S40_3, rfl, hl_v40_3⟩
            refine T.nil ?_
            refine F.efn rfl (d_append (i := 1) Tryz.underlying25 Tryz.underlying25 ti3 rfl (by decide) rfl rfl rfl (fun w hw => rd_slc ((rd_sl (i := 2) rfl) w hw) h43) hs44) ?_
            rintro v44_3 _ ⟨S44_3, rfl, hl_v44_3⟩
            refine F.qn rfl (r_assign rfl) (F.nil ?_)
            cases hE_4
            refine Nrm.only [4] rfl ?_
            refine Nrm.pick [1] rfl rfl ?_
            exact hj_3 _ _ ⟨v44_3, S44_3, hl_v44_3, rfl, rfl⟩
           exact T.stop
          exact T.stop
         exact T.stop
       ·refine T.ef rfl rfl rfl (wanted_none rfl) (Makes.does (m_buildF (l := ([a1] : List (Int))) Tryz.underlying25 ti3 rfl rfl rfl rfl rfl)) (by rintro v39_4 _ ⟨S39_4, hl_v39_4, rfl⟩; exact upd rfl [1] rfl rfl) ?_ ?_
        ·rintro v39_4 _ ⟨S39_4, hl_v39_4, rfl⟩
         refine T.ef rfl rfl rfl (wanted_none rfl) (Makes.does (m_build0 (α := Int) Tryz.underlying25 ti3)) (by rintro v33_3 _ ⟨S33_3, hl_v33_3, rfl⟩; exact upd rfl [2] rfl rfl) ?_ ?_
         ·rintro v33_3 _ ⟨S33_3, hl_v33_3, rfl⟩
          refine T.ef rfl rfl rfl (wanted_none rfl) (d_append (i := 0) Tryz.underlying25 Tryz.underlying25 ti3 rfl (by decide) rfl rfl rfl (fun w hw => rd_slc ((rd_sl (i := 2) rfl) w hw) h36) hs37) (by rintro v37_4 _ ⟨S37_4, rfl, hl_v37_4⟩; exact upd rfl [2] rfl rfl) ?_ ?_
          ·rintro v37_4 _ ⟨S37_4, rfl, hl_v37_4⟩
           refine T.ef rfl rfl rfl (wanted_none rfl) (d_append (i := 0) Tryz.underlying25 Tryz.underlying25 ti3 rfl (by decide) rfl rfl rfl (rd_sl (i := 1) rfl) hs40) (by rintro v40_4 _ ⟨S40_4, rfl, hl_v40_4⟩; exact upd rfl [2] rfl rfl) ?_ ?_
           ·rintro v40_4 _ ⟨S40_4, rfl, hl_v40_4⟩
            refine T.nil ?_
            refine F.efn rfl (d_append (i := 0) Tryz.underlying25 Tryz.underlying25 ti3 rfl (by decide) rfl rfl rfl (fun w hw => rd_slc ((rd_sl (i := 2) rfl) w hw) h43) hs44) ?_
            rintro v44_4 _ ⟨S44_4, rfl, hl_v44_4⟩
            refine F.qn rfl (r_assign rfl) (F.nil ?_)
            cases hE_4
            refine Nrm.only [4] rfl ?_
            refine Nrm.pick [0] rfl rfl ?_
            exact hj_3 _ _ ⟨v44_4, S44_4, hl_v44_4, rfl, rfl⟩
           exact T.stop
          exact T.stop
         exact T.stop
        exact T.stop
    ·rcases Bool.eq_false_or_eq_true (decide (x5 < (a0.length : Int))) with g24 | g24
     ·replace hE_3 := if_tt g24 hE_3
      obtain ⟨t27, h27, hE_3⟩ := bind_some hE_3
      refine Tri.reg (l := List.range 12) rfl ?_
      refine F.qn rfl (r_move rfl) (F.qn rfl (r_move rfl) (F.qn rfl (r_len Tryz.underlying25 rfl hl_va0) (F.qn rfl (r_lss rfl rfl) (F.qn rfl (r_move rfl) (F.qg rfl g24 (r_move rfl) ?_)))))
      refine F.qg rfl g24 (r_move rfl) (F.qg rfl g24 (r_indexAddrS Tryz.underlying25 ti3 rfl hl_va0 rfl (rdl_some h27).1 (rdl_some h27).2.1) (F.qg rfl g24 (r_load ta3 rfl (fun w hw => cell_0 (Rd.flat ((rd_sl (i := 0) rfl) w hw) (rdl_some h27).2.2) rfl)) (F.qg rfl g24 (r_move rfl) (F.qg rfl g24 (r_eql rfl rfl) (F.qn rfl (r_pick rfl rfl g24) (F.nil ?_))))))
      cases hE_3
      refine Nrm.only [0, 1, 5, 31] rfl ?_
      refine Nrm.pick [0] rfl rfl ?_
      exact hj_2 _ _ ⟨rfl, rfl⟩
     ·replace hE_3 := if_ff g24 hE_3
      refine Tri.reg (l := List.range 12) rfl ?_
      refine F.qn rfl (r_move rfl) (F.qn rfl (r_move rfl) (F.qn rfl (r_len Tryz.underlying25 rfl hl_va0) (F.qn rfl (r_lss rfl rfl) (F.qn rfl (r_move rfl) ?_))))
      iterate 6 refine F.skf rfl g24 ?_
      refine F.qn rfl (r_pickf rfl rfl g24) (F.nil ?_)
      cases hE_3
      refine Nrm.only [0, 1, 5, 31] rfl ?_
      refine Nrm.pick [0] rfl rfl ?_
      exact hj_2 _ _ ⟨rfl, rfl⟩
  ·rcases Bool.eq_false_or_eq_true (decide (x5 < (a0.length : Int))) with g10 | g10
   ·replace hE_2 := if_tt g10 hE_2
    obtain ⟨t13, h13, hE_2⟩ := bind_some hE_2
    refine Tri.reg (l := List.range 12) rfl ?_
    refine F.qn rfl (r_move rfl) (F.qn rfl (r_move rfl) (F.qn rfl (r_len Tryz.underlying25 rfl hl_va0) (F.qn rfl (r_lss rfl rfl) (F.qn rfl (r_move rfl) (F.qg rfl g10 (r_move rfl) ?_)))))
    refine F.qg rfl g10 (r_move rfl) (F.qg rfl g10 (r_indexAddrS Tryz.underlying25 ti3 rfl hl_va0 rfl (rdl_some h13).1 (rdl_some h13).2.1) (F.qg rfl g10 (r_load ta3 rfl (fun w hw => cell_0 (Rd.flat ((rd_sl (i := 0) rfl) w hw) (rdl_some h13).2.2) rfl)) (F.qg rfl g10 (r_move rfl) (F.qg rfl g10 (r_lss rfl rfl) (F.qn rfl (r_pick rfl rfl g10) (F.nil ?_))))))
    cases hE_2
    refine Nrm.only [0, 1, 5, 17] rfl ?_
    refine Nrm.pick [0] rfl rfl ?_
    exact hj_1 _ _ ⟨rfl, rfl⟩
   ·replace hE_2 := if_ff g10 hE_2
    refine Tri.reg (l := List.range 12) rfl ?_
    refine F.qn rfl (r_move rfl) (F.qn rfl (r_move rfl) (F.qn rfl (r_len Tryz.underlying25 rfl hl_va0) (F.qn rfl (r_lss rfl rfl) (F.qn rfl (r_move rfl) ?_))))
    iterate 6 refine F.skf rfl g10 ?_
    refine F.qn rfl (r_pickf rfl rfl g10) (F.nil ?_)
    cases hE_2
    refine Nrm.only [0, 1, 5, 17] rfl ?_
    refine Nrm.pick [0] rfl rfl ?_
    exact hj_1 _ _ ⟨rfl, rfl⟩


def spec_l2Reach.l1 (k : Nat) (a0_1 : List (Int × Int × Int)) (a2 : Int) (x9 : Int) : Nat → (List (Int)) → (List (Int)) → Int → Option ((List (Int)) × (List (Int)))
 | 0, _, _, _ => none
 | n + 1, x7r, x8r, x10 => (if (decide (x10 < (a0_1.length : Int))) = true then ((rdl a0_1 x10).bind fun t33 => ((spec_l2Has.f k a2 t33.2.2).bind fun t38 => (if (!t38) = true then some true else (rdl x8r x9).bind fun t45 => (if (t33.1 != t45) = true then (rdl x8r x9).bind fun t53 => some (t33.2.1 != t53) else some false))).bind fun y57 => (if y57 = true then some (x7r, x8r) else (rdl x8r x9).bind fun t65 => (spec_l1Has.f k x7r (w64 ((w64 (t33.1 + t33.2.1)) - t65))).bind fun t70 => ((if (!t70) = true then (spec_l1Put.f k x7r (w64 ((w64 (t33.1 + t33.2.1)) - t65))).bind fun t74 => if (x8r ++ ([w64 ((w64 (t33.1 + t33.2.1)) - t65)] : List (Int))).length < 1099511627776 then some (t74, x8r ++ ([w64 ((w64 (t33.1 + t33.2.1)) - t65)] : List (Int))) else none else some (x7r, x8r))).bind fun (y7, y8) => some (y7, y8))).bind fun (y7, y8) => spec_l2Reach.l1 k a0_1 a2 x9 n y7 y8 (w64 (x10 + 1)) else some (x7r, x8r))

def spec_l2Reach.l0 (k : Nat) (a0_1 : List (Int × Int × Int)) (a2 : Int) : Nat → (List (Int)) → (List (Int)) → Int → Option ((List (Int)))
 | 0, _, _, _ => none
 | n + 1, x7, x8, x9 => (if (decide (x9 < (x8.length : Int))) = true then (spec_l2Reach.l1 k a0_1 a2 x9 k x7 x8 0).bind fun (x7r, x8r) => spec_l2Reach.l0 k a0_1 a2 n x7r x8r (w64 (x9 + 1)) else some x7)

def spec_l2Reach.f (k : Nat) (a0_0 : Int) (a0_1 : List (Int × Int × Int)) (a0_2 : List Int) (a1 : Int) (a2 : Int) : Option ((List Int)) := (spec_l2Reach.l0 k a0_1 a2 k ([a1] : List (Int)) ([a1] : List (Int)) 0).bind fun x7 => some x7

theorem spec_l2Reach.ok {k : Nat}  {a0_0 : Int} {a0_1 : List (Int × Int × Int)} {a0_2 : List Int} {a1 : Int} {a2 : Int} {r0 : List Int} (h : spec_l2Reach.f k a0_0 a0_1 a0_2 a1 a2 = some r0) (w : World) {va0_1 : Value} {va0_2 : Value} (hr_a0_1 : Rd w va0_1 a0_1) (hr_a0_2 : Rd w va0_2 a0_2) :
  Calls Tryz.prog 208 ([.agg ([.int .i64 a0_0, va0_1, va0_2].toArray), .int .i64 a1, .int .i64 a2] : List Value).toArray w (Post (fun u ns => ∃ (Sr0 : Nat → Prop), SlLen u r0.length ∧ ns = [R.sl Sr0 u r0]) w) := by
 unfold spec_l2Reach.f at h
 have hl_va0_1 := hr_a0_1.len
 have hl_va0_2 := hr_a0_2.len
 refine Calls.of_tri (N := 80) Tryz.func208 rfl rfl rfl (Sep.nil (M := noM)) ?_
 refine Tri.seq (Tri.reg (l := [0, 1]) rfl ?_)
 refine F.mn rfl (m_boxG rfl rfl) ?_
 rintro _ _ ⟨b3_1, rfl, rfl⟩
 refine F.qn rfl (r_assign rfl) (F.nil (Nrm.seq (Tri.seq (Tri.reg (l := [0, 1, 2, 3, 4, 5]) rfl ?_))))
 refine F.qn rfl (r_move rfl) ?_
 refine F.mn rfl (m_buildF (l := ([a1] : List (Int))) Tryz.underlying25 ti3 rfl rfl rfl rfl rfl) ?_
 rintro v14_1 _ ⟨S14_1, hl_v14_1, rfl⟩
 refine F.qn rfl (r_move rfl) ?_
 refine F.mn rfl (m_buildF (l := ([a1] : List (Int))) Tryz.underlying25 ti3 rfl rfl rfl rfl rfl) ?_
 rintro v16_1 _ ⟨S16_1, hl_v16_1, rfl⟩
 refine F.qn rfl (r_assign rfl) (F.qn rfl (r_assign rfl) (F.nil (Nrm.seq (Tri.seq (Tri.seq (Tri.reg (l := [0]) rfl ?_))))))
 refine F.qn rfl (r_assign rfl) (F.nil (Nrm.seq ?_))
 obtain ⟨x7, hE_1, h⟩ := bind_some h
 refine Tri.block ?_
 refine Tri.only [2, 3, 7, 8, 9] rfl ?_
 refine Tri.pick [2, 0, 1] rfl rfl ?_
 refine Tri.rounds (fun n e' C' => ∃ (x7' : List (Int)) (x8' : List (Int)) (x9' : Int) (w7 : Value) (T7 : Nat → Prop) (w8 : Value) (T8 : Nat → Prop), spec_l2Reach.l0 k a0_1 a2 n x7' x8' x9' = some x7 ∧ SlLen w7 (x7').length ∧ SlLen w8 (x8').length ∧ e' = [(2, .int .i64 a2), (3, .pointer (some ⟨b3_1, 0, none⟩)), (7, w7), (8, w8), (9, .int .i64 x9')] ∧ C' = Sep w noM [R.box b3_1 27 [.int .i64 a0_0, va0_1, va0_2], R.sl T8 w8 (x8' : List (Int)), R.sl T7 w7 (x7' : List (Int))]) k ?_ ?_ ?_
 ·exact ⟨([a1] : List (Int)), ([a1] : List (Int)), 0, v14_1, S14_1, v16_1, S16_1, hE_1, hl_v14_1, hl_v16_1, rfl, rfl⟩
 ·rintro _ _ ⟨_, _, _, _, _, _, _, hE_1, _⟩
  rw [spec_l2Reach.l0.eq_1] at hE_1; cases hE_1
 ·rintro n_1 _ _ ⟨x7, x8, x9, w7, T7, w8, T8, hE_1, hl_w7, hl_w8, rfl, rfl⟩ ih_1
  rw [spec_l2Reach.l0.eq_2] at hE_1
  refine Tri.seq (Tri.seq (Tri.reg (l := [0, 1, 2, 3]) rfl ?_))
  refine F.qn rfl (r_move rfl) (F.qn rfl (r_move rfl) (F.qn rfl (r_len Tryz.underlying25 rfl hl_w8) (F.qn rfl (r_lss rfl rfl) (F.nil (Nrm.seq (Tri.cond (b := decide (x9 < (x8.length : Int))) rfl (fun g_1 => ?_) (fun g_1 => ?_)))))))
  ·replace hE_1 := if_tt g_1 hE_1
   refine Tri.skip (Nrm.seq (Tri.seq (Tri.block ?_)))
   refine Tri.seq (Tri.reg (l := [0]) rfl ?_)
   refine F.qn rfl (r_assign rfl) (F.nil (Nrm.seq ?_))
   obtain ⟨⟨x7r, x8r⟩, hE_2, hE_1⟩ := bind_some hE_1
   refine Tri.block ?_
   refine Tri.only [2, 3, 7, 8, 9, 10] rfl ?_
   refine Tri.pick [0, 1, 2] rfl rfl ?_
   refine Tri.rounds (fun n e' C' => ∃ (x7r' : List (Int)) (x8r' : List (Int)) (x10' : Int) (w7r : Value) (T7r : Nat → Prop) (w8r : Value) (T8r : Nat → Prop), spec_l2Reach.l1 k a0_1 a2 x9 n x7r' x8r' x10' = some (x7r, x8r) ∧ SlLen w7r (x7r').length ∧ SlLen w8r (x8r').length ∧ e' = [(2, .int .i64 a2), (3, .pointer (some ⟨b3_1, 0, none⟩)), (7, w7r), (8, w8r), (9, .int .i64 x9), (10, .int .i64 x10')] ∧ C' = Sep w noM [R.box b3_1 27 [.int .i64 a0_0, va0_1, va0_2], R.sl T8r w8r (x8r' : List (Int)), R.sl T7r w7r (x7r' : List (Int))]) k ?_ ?_ ?_
   ·exact ⟨x7, x8, 0, w7, T7, w8, T8, hE_2, hl_w7, hl_w8, rfl, rfl⟩
   ·rintro _ _ ⟨_, _, _, _, _, _, _, hE_2, _⟩
    rw [spec_l2Reach.l1.eq_1] at hE_2; cases hE_2
   ·rintro n_2 _ _ ⟨x7r, x8r, x10, w7r, T7r, w8r, T8r, hE_2, hl_w7r, hl_w8r, rfl, rfl⟩ ih_2
    rw [spec_l2Reach.l1.eq_2] at hE_2
    refine Tri.seq (Tri.seq (Tri.reg (l := [0, 1, 2, 3, 4]) rfl ?_))
    refine F.qn rfl (r_move rfl) (F.qn rfl (r_fieldAddr tf27_1 rfl) (F.qn rfl (r_load ta24 rfl (fun w hw => cell_1 (box_cells (i := 0) rfl w hw) rfl)) (F.qn rfl (r_len Tryz.underlying24 rfl hl_va0_1) (F.qn rfl (r_lss rfl rfl) (F.nil (Nrm.seq (Tri.cond (b := decide (x10 < (a0_1.length : Int))) rfl (fun g_2 => ?_) (fun g_2 => ?_))))))))
    ·replace hE_2 := if_tt g_2 hE_2
     refine Tri.skip (Nrm.seq (Tri.seq ?_))
     obtain ⟨⟨y7, y8⟩, hE_3, hE_2⟩ := bind_some hE_2
     refine Tri.cut (fun e' C' => ∃ (v7_1 : Value) (S7_1 : Nat → Prop) (v8_1 : Value) (S8_1 : Nat → Prop), SlLen v7_1 (y7).length ∧ SlLen v8_1 (y8).length ∧ e' = [(2, .int .i64 a2), (3, .pointer (some ⟨b3_1, 0, none⟩)), (7, v7_1), (8, v8_1), (9, .int .i64 x9), (10, .int .i64 x10)] ∧ C' = Sep w noM [R.box b3_1 27 [.int .i64 a0_0, va0_1, va0_2], R.sl S7_1 v7_1 (y7 : List (Int)), R.sl S8_1 v8_1 (y8 : List (Int))]) ?_ (fun hj_1 => ?_)
     ·rintro _ _ ⟨v7_1, S7_1, v8_1, S8_1, hl_v7_1, hl_v8_1, rfl, rfl⟩
      refine Nrm.seq (Tri.reg (l := [0, 1, 2]) rfl ?_)
      refine F.qn rfl (r_move rfl) (F.qn rfl (r_add rfl rfl) (F.qn rfl (r_assign rfl) (F.nil (Nrm.round ?_))))
      refine Rnd.only [2, 3, 7, 8, 9, 10] rfl ?_
      refine Rnd.pick [0, 2, 1] rfl rfl ?_
      exact ih_2 _ _ ⟨y7, y8, w64 (x10 + 1), v7_1, S7_1, v8_1, S8_1, hE_2, hl_v7_1, hl_v8_1, rfl, rfl⟩
     ·refine Tri.block ?_
      refine Tri.seq ?_
      obtain ⟨t33, h33, hE_3⟩ := bind_some hE_3
      refine Tri.reg (l := [0, 1, 2, 3, 4, 5, 6]) rfl ?_
      refine F.qn rfl (r_fieldAddr tf27_1 rfl) (F.qn rfl (r_load ta24 rfl (fun w hw => cell_1 (box_cells (i := 0) rfl w hw) rfl)) (F.qn rfl (r_move rfl) (F.qn rfl (r_indexAddrS Tryz.underlying24 ti168 rfl hl_va0_1 rfl (rdl_some h33).1 (rdl_some h33).2.1) (F.qn rfl (r_loadA ta168 ti168 rfl rfl (fun w hw => (Rd.flat ((fun _ hw => hr_a0_1.sep hw) w hw) (rdl_some h33).2.2))) ?_))))
      refine F.mn rfl (m_alloc ti168) ?_
      rintro _ _ ⟨b11_1, rfl, rfl⟩
      refine F.ef0 rfl rfl (wanted_none rfl) (d_storeG0 (i := 0) (cs2 := [.int .i64 t33.1, .int .i64 t33.2.1, .int .i64 t33.2.2]) ti168 rfl rfl rfl rfl rfl (Nat.le_of_ble_eq_true rfl) (lf_cons rfl (lf_cons rfl (lf_cons rfl lf_nil)))) ?_
      rintro _ _ ⟨rfl, rfl⟩
      refine F.nil (Nrm.seq (Tri.seq (Tri.seq ?_)))
      obtain ⟨y57, hE_4, hE_3⟩ := bind_some hE_3
      refine Tri.cut (fun e' C' => e' = [(2, .int .i64 a2), (3, .pointer (some ⟨b3_1, 0, none⟩)), (7, w7r), (8, w8r), (9, .int .i64 x9), (10, .int .i64 x10), (11, .pointer (some ⟨b11_1, 0, none⟩)), (57, .bool y57)] ∧ C' = Sep w noM [R.box b11_1 168 [.int .i64 t33.1, .int .i64 t33.2.1, .int .i64 t33.2.2], R.box b3_1 27 [.int .i64 a0_0, va0_1, va0_2], R.sl T7r w7r (x7r : List (Int)), R.sl T8r w8r (x8r : List (Int))]) ?_ (fun hj_2 => ?_)
      ·rintro _ _ ⟨rfl, rfl⟩
       refine Nrm.seq (Tri.cond (b := y57) rfl (fun g_3 => ?_) (fun g_3 => ?_))
       ·replace hE_3 := if_tt g_3 hE_3
        refine Tri.exit ?_
        refine Exi.then ?_
        refine Exi.same ?_
        cases hE_3
        refine Nrm.only [2, 3, 7, 8, 9, 10] rfl ?_
        refine Nrm.pick [1, 2, 3] rfl rfl ?_
        exact hj_1 _ _ ⟨w7r, T7r, w8r, T8r, hl_w7r, hl_w8r, rfl, rfl⟩
       ·replace hE_3 := if_ff g_3 hE_3
        refine Tri.skip (Nrm.seq (Tri.seq ?_))
        obtain ⟨t65, h65, hE_3⟩ := bind_some hE_3
        refine Tri.drawA mixedT Sep.up [(0, true), (1, true), (2, true), (3, true), (4, true), (5, true), (6, true), (7, true), (8, true), (9, true), (10, true)] [] (by kernel_rfl) ?_
        refine S.qn rfl (r_indexAddrA Tryz.underlying168 ti3 rfl rfl (by decide) (by decide)) (S.qn rfl (r_load ta3 rfl (fun w hw => cell_1 (box_cells (i := 0) rfl w hw) rfl)) (S.qn rfl (r_indexAddrA Tryz.underlying168 ti3 rfl rfl (by decide) (by decide)) (S.qn rfl (r_load ta3 rfl (fun w hw => cell_1 (box_cells (i := 0) rfl w hw) rfl)) (S.qn rfl (r_add rfl rfl) ?_))))
        refine S.qn rfl (r_move rfl) (S.qn rfl (r_move rfl) (S.qn rfl (r_indexAddrS Tryz.underlying25 ti3 rfl hl_w8r rfl (rdl_some h65).1 (rdl_some h65).2.1) (S.qn rfl (r_load ta3 rfl (fun w hw => cell_0 (Rd.flat ((rd_sl (i := 3) rfl) w hw) (rdl_some h65).2.2) rfl)) (S.qn rfl (r_sub rfl rfl) (S.qn rfl (r_assign rfl) (S.nil (F.nil (Nrm.seq (Tri.seq ?_)))))))))
        obtain ⟨t70, h70, hE_3⟩ := bind_some hE_3
        refine Tri.reg (l := [0, 1, 2, 3]) rfl ?_
        refine F.qn rfl (r_move rfl) (F.qn rfl (r_move rfl) ?_)
        refine F.qcn rfl (q_callF (xs := _) rfl ok149 rfl rfl (fun w hw => spec_l1Has.ok h70 w ((rd_sl (i := 2) rfl) w hw))) ?_
        refine F.qn rfl (r_not rfl) (F.nil (Nrm.seq ?_))
        obtain ⟨⟨y7, y8⟩, hE_5, hE_3⟩ := bind_some hE_3
        refine Tri.cut (fun e' C' => ∃ (v7_2 : Value) (S7_2 : Nat → Prop) (v8_2 : Value) (S8_2 : Nat → Prop), SlLen v7_2 (y7).length ∧ SlLen v8_2 (y8).length ∧ e' = [(2, .int .i64 a2), (3, .pointer (some ⟨b3_1, 0, none⟩)), (7, v7_2), (8, v8_2), (9, .int .i64 x9), (10, .int .i64 x10)] ∧ C' = Sep w noM [R.box b3_1 27 [.int .i64 a0_0, va0_1, va0_2], R.sl S7_2 v7_2 (y7 : List (Int)), R.sl S8_2 v8_2 (y8 : List (Int))]) ?_ (fun hj_3 => ?_)
        ·rintro _ _ ⟨v7_2, S7_2, v8_2, S8_2, hl_v7_2, hl_v8_2, rfl, rfl⟩
         refine Nrm.block ?_
         cases hE_3
         refine Nrm.only [2, 3, 7, 8, 9, 10] rfl ?_
         refine Nrm.pick [0, 1, 2] rfl rfl ?_
         exact hj_1 _ _ ⟨v7_2, S7_2, v8_2, S8_2, hl_v7_2, hl_v8_2, rfl, rfl⟩
        ·refine Tri.cond (b := !t70) rfl (fun g_4 => ?_) (fun g_4 => ?_)
         ·replace hE_5 := if_tt g_4 hE_5
          refine Tri.seq ?_
          obtain ⟨t74, h74, hE_5⟩ := bind_some hE_5
          refine Tri.reg (l := [0, 1, 2, 3]) rfl ?_
          refine F.qn rfl (r_move rfl) (F.qn rfl (r_move rfl) ?_)
          refine F.efn rfl (d_callM (xs := _) (cs := [R.sl T7r w7r (x7r : List (Int))]) (rest := [R.box b11_1 168 [.int .i64 t33.1, .int .i64 t33.2.1, .int .i64 t33.2.2], R.box b3_1 27 [.int .i64 a0_0, va0_1, va0_2], R.sl T8r w8r (x8r : List (Int))]) [2] [0, 1, 3] rfl ok244 rfl rfl rfl rfl (fun w hw => spec_l1Put.ok h74 w hl_w7r (Sep.sub hw))) ?_
          rintro v74_1 _ ⟨_, ⟨S74_1, hl_v74_1, rfl⟩, rfl⟩
          refine F.qn rfl (r_assign rfl) (F.nil (Nrm.seq ?_))
          obtain ⟨hs78, hE_5⟩ := ck hE_5
          refine Tri.reg (l := [0, 1, 2, 3, 4]) rfl ?_
          refine F.qn rfl (r_move rfl) (F.qn rfl (r_move rfl) ?_)
          refine F.mn rfl (m_buildF (l := ([w64 ((w64 (t33.1 + t33.2.1)) - t65)] : List (Int))) Tryz.underlying25 ti3 rfl rfl rfl rfl rfl) ?_
          rintro v77_1 _ ⟨S77_1, hl_v77_1, rfl⟩
          refine F.efn rfl (d_append (i := 4) Tryz.underlying25 Tryz.underlying25 ti3 rfl (by decide) rfl rfl rfl (rd_sl (i := 0) rfl) hs78) ?_
          rintro v78_1 _ ⟨S78_1, rfl, hl_v78_1⟩
          refine F.qn rfl (r_assign rfl) (F.nil ?_)
          cases hE_5
          refine Nrm.only [2, 3, 7, 8, 9, 10] rfl ?_
          refine Nrm.pick [3, 1, 4] rfl rfl ?_
          exact hj_3 _ _ ⟨v74_1, S74_1, v78_1, S78_1, hl_v74_1, hl_v78_1, rfl, rfl⟩
         ·replace hE_5 := if_ff g_4 hE_5
          refine Tri.skip ?_
          cases hE_5
          refine Nrm.only [2, 3, 7, 8, 9, 10] rfl ?_
          refine Nrm.pick [1, 2, 3] rfl rfl ?_
          exact hj_3 _ _ ⟨w7r, T7r, w8r, T8r, hl_w7r, hl_w8r, rfl, rfl⟩
      ·obtain ⟨t38, h38, hE_4⟩ := bind_some hE_4
       rcases Bool.eq_false_or_eq_true (!t38) with g40 | g40
       ·replace hE_4 := if_tt g40 hE_4
        refine Tri.drawA mixedT Sep.up [(0, true), (1, true), (2, true), (3, true), (4, true), (5, true), (6, true), (7, true), (8, true), (9, true), (10, true), (11, true), (12, true), (13, true), (14, true), (15, true), (16, true), (17, true), (18, true), (19, true), (20, true), (21, true), (22, true)] [] (by kernel_rfl) ?_
        refine S.qn rfl (r_move rfl) (S.qn rfl (r_indexAddrA Tryz.underlying168 ti3 rfl rfl (by decide) (by decide)) (S.qn rfl (r_load ta3 rfl (fun w hw => cell_1 (box_cells (i := 0) rfl w hw) rfl)) ?_))
        refine S.qcn rfl (q_callF (xs := _) rfl ok216 rfl rfl (fun w hw => spec_l2Has.ok h38 w )) ?_
        refine S.qn rfl (r_not rfl) (S.qn rfl (r_move rfl) ?_)
        iterate 8 refine S.skf rfl g40 ?_
        iterate 7 refine S.sk rfl rfl rfl (wanted_undef rfl rfl rfl) ?_
        refine S.skf rfl g40 (S.qn rfl (r_pick rfl rfl g40) (S.nil (F.nil ?_)))
        cases hE_4
        refine Nrm.only [2, 3, 7, 8, 9, 10, 11, 57] rfl ?_
        refine Nrm.pick [0, 1, 3, 2] rfl rfl ?_
        exact hj_2 _ _ ⟨rfl, rfl⟩
       ·replace hE_4 := if_ff g40 hE_4
        obtain ⟨t45, h45, hE_4⟩ := bind_some hE_4
        rcases Bool.eq_false_or_eq_true (t33.1 != t45) with g48 | g48
        ·replace hE_4 := if_tt g48 hE_4
         obtain ⟨t53, h53, hE_4⟩ := bind_some hE_4
         refine Tri.drawA mixedT Sep.up [(0, true), (1, true), (2, true), (3, true), (4, true), (5, true), (6, true), (7, true), (8, true), (9, true), (10, true), (11, true), (12, true), (13, true), (14, true), (15, true), (16, true), (17, true), (18, true), (19, true), (20, true), (21, true), (22, true)] [] (by kernel_rfl) ?_
         refine S.qn rfl (r_move rfl) (S.qn rfl (r_indexAddrA Tryz.underlying168 ti3 rfl rfl (by decide) (by decide)) (S.qn rfl (r_load ta3 rfl (fun w hw => cell_1 (box_cells (i := 0) rfl w hw) rfl)) ?_))
         refine S.qcn rfl (q_callF (xs := _) rfl ok216 rfl rfl (fun w hw => spec_l2Has.ok h38 w )) ?_
         refine S.qn rfl (r_not rfl) ?_
         refine S.qn rfl (r_move rfl) (S.qg rfl g40 (r_indexAddrA Tryz.underlying168 ti3 rfl rfl (by decide) (by decide)) (S.qg rfl g40 (r_load ta3 rfl (fun w hw => cell_1 (box_cells (i := 0) rfl w hw) rfl)) (S.qg rfl g40 (r_move rfl) (S.qg rfl g40 (r_move rfl) (S.qg rfl g40 (r_indexAddrS Tryz.underlying25 ti3 rfl hl_w8r rfl (rdl_some h45).1 (rdl_some h45).2.1) ?_)))))
         refine S.qg rfl g40 (r_load ta3 rfl (fun w hw => cell_0 (Rd.flat ((rd_sl (i := 2) rfl) w hw) (rdl_some h45).2.2) rfl)) (S.qg rfl g40 (r_neq rfl rfl) (S.qg rfl g40 (r_move rfl) (S.qg rfl g48 (r_indexAddrA Tryz.underlying168 ti3 rfl rfl (by decide) (by decide)) (S.qg rfl g48 (r_load ta3 rfl (fun w hw => cell_1 (box_cells (i := 0) rfl w hw) rfl)) (S.qg rfl g48 (r_move rfl) ?_)))))
         refine S.qg rfl g48 (r_move rfl) (S.qg rfl g48 (r_indexAddrS Tryz.underlying25 ti3 rfl hl_w8r rfl (rdl_some h53).1 (rdl_some h53).2.1) (S.qg rfl g48 (r_load ta3 rfl (fun w hw => cell_0 (Rd.flat ((rd_sl (i := 2) rfl) w hw) (rdl_some h53).2.2) rfl)) (S.qg rfl g48 (r_neq rfl rfl) (S.qg rfl g40 (r_pick rfl rfl g48) (S.qn rfl (r_pickf rfl rfl g40) (S.nil (F.nil ?_)))))))
         cases hE_4
         refine Nrm.only [2, 3, 7, 8, 9, 10, 11, 57] rfl ?_
         refine Nrm.pick [0, 1, 3, 2] rfl rfl ?_
         exact hj_2 _ _ ⟨rfl, rfl⟩
        ·replace hE_4 := if_ff g48 hE_4
         refine Tri.drawA mixedT Sep.up [(0, true), (1, true), (2, true), (3, true), (4, true), (5, true), (6, true), (7, true), (8, true), (9, true), (10, true), (11, true), (12, true), (13, true), (14, true), (15, true), (16, true), (17, true), (18, true), (19, true), (20, true), (21, true), (22, true)] [] (by kernel_rfl) ?_
         refine S.qn rfl (r_move rfl) (S.qn rfl (r_indexAddrA Tryz.underlying168 ti3 rfl rfl (by decide) (by decide)) (S.qn rfl (r_load ta3 rfl (fun w hw => cell_1 (box_cells (i := 0) rfl w hw) rfl)) ?_))
         refine S.qcn rfl (q_callF (xs := _) rfl ok216 rfl rfl (fun w hw => spec_l2Has.ok h38 w )) ?_
         refine S.qn rfl (r_not rfl) (S.qn rfl (r_move rfl) (S.qg rfl g40 (r_indexAddrA Tryz.underlying168 ti3 rfl rfl (by decide) (by decide)) (S.qg rfl g40 (r_load ta3 rfl (fun w hw => cell_1 (box_cells (i := 0) rfl w hw) rfl)) ?_)))
         refine S.qg rfl g40 (r_move rfl) (S.qg rfl g40 (r_move rfl) (S.qg rfl g40 (r_indexAddrS Tryz.underlying25 ti3 rfl hl_w8r rfl (rdl_some h45).1 (rdl_some h45).2.1) (S.qg rfl g40 (r_load ta3 rfl (fun w hw => cell_0 (Rd.flat ((rd_sl (i := 2) rfl) w hw) (rdl_some h45).2.2) rfl)) (S.qg rfl g40 (r_neq rfl rfl) (S.qg rfl g40 (r_move rfl) ?_)))))
         iterate 7 refine S.skf rfl g48 ?_
         refine S.qg rfl g40 (r_pickf rfl rfl g48) (S.qn rfl (r_pickf rfl rfl g40) (S.nil (F.nil ?_)))
         cases hE_4
         refine Nrm.only [2, 3, 7, 8, 9, 10, 11, 57] rfl ?_
         refine Nrm.pick [0, 1, 3, 2] rfl rfl ?_
         exact hj_2 _ _ ⟨rfl, rfl⟩
    ·replace hE_2 := if_ff g_2 hE_2
     refine Tri.exit ?_
     refine Exi.then ?_
     refine Exi.then ?_
     refine Exi.same ?_
     cases hE_2
     refine Nrm.block ?_
     refine Nrm.seq (Tri.reg (l := [0, 1, 2]) rfl ?_)
     refine F.qn rfl (r_move rfl) (F.qn rfl (r_add rfl rfl) (F.qn rfl (r_assign rfl) (F.nil (Nrm.round ?_))))
     refine Rnd.only [2, 3, 7, 8, 9] rfl ?_
     refine Rnd.pick [0, 1, 2] rfl rfl ?_
     exact ih_1 _ _ ⟨x7r, x8r, w64 (x9 + 1), w7r, T7r, w8r, T8r, hE_1, hl_w7r, hl_w8r, rfl, rfl⟩
  ·replace hE_1 := if_ff g_1 hE_1
   refine Tri.exit ?_
   refine Exi.then ?_
   refine Exi.then ?_
   refine Exi.same ?_
   cases hE_1
   refine Nrm.seq (Tri.seq (Tri.reg (l := [0, 1]) rfl ?_))
   refine F.qn rfl (r_move rfl) (F.qn rfl (r_assign rfl) (F.nil (Nrm.seq (Tri.ret ?_))))
   cases h
   exact Rtn.body (.tmp rfl .nil) (fun w hw => ⟨_, _, rfl, ⟨T7, hl_w7, rfl⟩, Sep.pick (is := [2]) rfl rfl hw⟩)


def spec_l12Ahead.f (k : Nat) (a0_0 : Int) (a0_1 : List (Int × Int × Int)) (a0_2 : List Int) (a0_3 : List Int) (a0_4 : Int) : Option ((List Int)) := (rdl a0_3 (w64 ((a0_3.length : Int) - 1))).bind fun t11 => (spec_l12Has.f k a0_0 a0_1 a0_2 a0_3 a0_4).bind fun t14 => (spec_l2Reach.f k a0_0 a0_1 a0_2 t11 t14).bind fun t15 => some t15

theorem spec_l12Ahead.ok {k : Nat}  {a0_0 : Int} {a0_1 : List (Int × Int × Int)} {a0_2 : List Int} {a0_3 : List Int} {a0_4 : Int} {r0 : List Int} (h : spec_l12Ahead.f k a0_0 a0_1 a0_2 a0_3 a0_4 = some r0) (w : World) {va0_1 : Value} {va0_2 : Value} {va0_3 : Value} (hr_a0_1 : Rd w va0_1 a0_1) (hr_a0_2 : Rd w va0_2 a0_2) (hr_a0_3 : Rd w va0_3 a0_3) :
  Calls Tryz.prog 121 ([.agg ([.int .i64 a0_0, va0_1, va0_2, va0_3, .int .i64 a0_4].toArray)] : List Value).toArray w (Post (fun u ns => ∃ (Sr0 : Nat → Prop), SlLen u r0.length ∧ ns = [R.sl Sr0 u r0]) w) := by
 unfold spec_l12Ahead.f at h
 have hl_va0_1 := hr_a0_1.len
 have hl_va0_2 := hr_a0_2.len
 have hl_va0_3 := hr_a0_3.len
 refine Calls.of_tri (N := 16) Tryz.func121 rfl rfl rfl (Sep.nil (M := noM)) ?_
 refine Tri.seq (Tri.reg (l := [0, 1]) rfl ?_)
 refine F.mn rfl (m_boxG rfl rfl) ?_
 rintro _ _ ⟨b1_1, rfl, rfl⟩
 refine F.qn rfl (r_assign rfl) (F.nil (Nrm.seq (Tri.seq ?_)))
 obtain ⟨t11, h11, h⟩ := bind_some h
 obtain ⟨t14, h14, h⟩ := bind_some h
 obtain ⟨t15, h15, h⟩ := bind_some h
 refine Tri.drawA mixedT Sep.up [(0, true), (1, true), (2, true), (3, true), (4, true), (5, true), (6, true), (7, true), (8, true), (9, true), (10, true), (11, true), (12, false), (13, true)] [] (by kernel_rfl) ?_
 refine S.qn rfl (r_fieldAddr tf44_0 rfl) (S.qn rfl (r_loadA ta27 ti27 rfl rfl (fun w hw => cells_1 (cs' := [.int .i64 a0_0, va0_1, va0_2]) (box_cells (i := 0) rfl w hw) rfl)) (S.qn rfl (r_fieldAddr tf44_1 rfl) (S.qn rfl (r_load ta25 rfl (fun w hw => cell_1 (box_cells (i := 0) rfl w hw) rfl)) (S.qn rfl (r_fieldAddr tf44_1 rfl) ?_))))
 refine S.qn rfl (r_load ta25 rfl (fun w hw => cell_1 (box_cells (i := 0) rfl w hw) rfl)) (S.qn rfl (r_len Tryz.underlying25 rfl hl_va0_3) (S.qn rfl (r_sub rfl rfl) (S.qn rfl (r_indexAddrS Tryz.underlying25 ti3 rfl hl_va0_3 rfl (rdl_some h11).1 (rdl_some h11).2.1) (S.qn rfl (r_load ta3 rfl (fun w hw => cell_0 (Rd.flat ((fun _ hw => hr_a0_3.sep hw) w hw) (rdl_some h11).2.2) rfl)) (S.qn rfl (r_loadA ta44 ti44 rfl rfl (fun w hw => (box_cells (i := 0) rfl w hw))) ?_)))))
 refine S.qcn rfl (q_callF (xs := _) rfl ok118 rfl rfl (fun w hw => spec_l12Has.ok h14 w ((fun _ hw => hr_a0_1.sep hw) w hw) ((fun _ hw => hr_a0_2.sep hw) w hw) ((fun _ hw => hr_a0_3.sep hw) w hw))) ?_
 refine S.m rfl rfl rfl (wanted_none rfl) (m_callF (xs := _) rfl ok208 rfl rfl (fun w hw => spec_l2Reach.ok h15 w ((fun _ hw => hr_a0_1.sep hw) w hw) ((fun _ hw => hr_a0_2.sep hw) w hw))) ?_
 rintro v15_2 _ ⟨_, ⟨S15_2, hl_v15_2, rfl⟩, rfl⟩
 refine S.qn rfl (r_assign rfl) (S.nil (F.nil (Nrm.seq (Tri.ret ?_))))
 cases h
 exact Rtn.body (.tmp rfl .nil) (fun w hw => ⟨_, _, rfl, ⟨S15_2, hl_v15_2, rfl⟩, Sep.pick (is := [0]) rfl rfl hw⟩)


def spec_l1Cur_colours.l0 (k : Nat) (a0_0 : List By) : Nat → Int → Int → Int → Int → Option (Int × Int × Int)
 | 0, _, _, _, _ => none
 | n + 1, x3, x4, xpa0_1, xpa0_2 => (if (decide (x4 > 0)) = true then (spec_l1Cur_pick.f k a0_0 xpa0_1 xpa0_2 6).bind fun (t18_1, t18_2, t18_3) => if ¬ t18_1 < 0 then spec_l1Cur_colours.l0 k a0_0 n (bor x3 (shl 1 t18_1)) (w64 (x4 - 1)) t18_2 t18_3 else none else some (x3, xpa0_1, xpa0_2))

def spec_l1Cur_colours.f (k : Nat) (a0_0 : List By) (a0_1 : Int) (a0_2 : Int) : Option (Int × Int × Int) := (spec_l1Cur_one.f k a0_0 a0_1 a0_2 30).bind fun (t6_1, t6_2, t6_3) => (if t6_1 = true then (spec_l1Cur_among.f k a0_0 t6_2 t6_3 ([63, 64, (-1), 4611686018427387904] : List (Int))).bind fun (t9_1, t9_2, t9_3) => some (t9_1, t9_2, t9_3) else (spec_l1Cur_pick.f k a0_0 t6_2 t6_3 4).bind fun (t11_1, t11_2, t11_3) => (spec_l1Cur_colours.l0 k a0_0 k 0 t11_1 t11_2 t11_3).bind fun (x3, xpa0_1, xpa0_2) => some (x3, xpa0_1, xpa0_2))

theorem spec_l1Cur_colours.ok {k : Nat}  {a0_0 : List By} {a0_1 : Int} {a0_2 : Int} {r0 : Int} {r1 : Int} {r2 : Int} (h : spec_l1Cur_colours.f k a0_0 a0_1 a0_2 = some (r0, r1, r2)) (w : World) {pa0 : Nat} {va0_0 : Value} (hr_a0_0 : RdM w (footM [R.box pa0 114 [va0_0, .int .i64 a0_1, .int .u64 a0_2]]) va0_0 a0_0) (hw0 : Sep w (footM [R.box pa0 114 [va0_0, .int .i64 a0_1, .int .u64 a0_2]]) [R.box pa0 114 [va0_0, .int .i64 a0_1, .int .u64 a0_2]] w) :
  Calls Tryz.prog 201 ([.pointer (some ⟨pa0, 0, none⟩)] : List Value).toArray w (PostM (footM [R.box pa0 114 [va0_0, .int .i64 a0_1, .int .u64 a0_2]]) (fun u ns => u = .int .i64 r0 ∧ ns = [R.box pa0 114 [va0_0, .int .i64 r1, .int .u64 r2]]) w) := by
 unfold spec_l1Cur_colours.f at h
 have hl_va0_0 := hr_a0_0.len
 refine Calls.of_tri (N := 22) Tryz.func201 rfl rfl rfl hw0 ?_
 refine Tri.seq (Tri.reg (l := [0]) rfl ?_)
 refine F.qn rfl (r_assign rfl) (F.nil (Nrm.seq (Tri.seq (Tri.seq ?_))))
 obtain ⟨⟨t6_1, t6_2, t6_3⟩, h6, h⟩ := bind_some h
 refine Tri.reg (l := [0, 1]) rfl ?_
 refine F.qn rfl (r_move rfl) ?_
 refine F.efn rfl (d_callM (xs := _) (cs := [R.box pa0 114 [va0_0, .int .i64 a0_1, .int .u64 a0_2]]) (rest := []) [0] [] rfl ok200 rfl rfl rfl rfl (fun w hw => spec_l1Cur_one.ok h6 w (hr_a0_0.down hw) (Sep.sub hw))) ?_
 rintro _ _ ⟨_, ⟨rfl, rfl⟩, rfl⟩
 refine F.nil (Nrm.seq (Tri.cond (b := t6_1) rfl (fun g_1 => ?_) (fun g_1 => ?_)))
 ·replace h := if_tt g_1 h
  refine Tri.seq ?_
  obtain ⟨⟨t9_1, t9_2, t9_3⟩, h9, h⟩ := bind_some h
  refine Tri.reg (l := [0, 1, 2, 3]) rfl ?_
  refine F.qn rfl (r_move rfl) ?_
  refine F.mn rfl (m_buildF (l := ([63, 64, (-1), 4611686018427387904] : List (Int))) Tryz.underlying25 ti3 rfl rfl rfl rfl rfl) ?_
  rintro v8_1 _ ⟨S8_1, hl_v8_1, rfl⟩
  refine F.efn rfl (d_callM (xs := _) (cs := [R.box pa0 114 [va0_0, .int .i64 t6_2, .int .u64 t6_3]]) (rest := [R.sl S8_1 v8_1 (([63, 64, (-1), 4611686018427387904] : List (Int)) : List (Int))]) [1] [0] rfl ok194 rfl rfl rfl rfl (fun w hw => spec_l1Cur_among.ok h9 w (hr_a0_0.down hw) (rdm_sl (i := 0) rfl hw) (Sep.sub hw))) ?_
  rintro _ _ ⟨_, ⟨rfl, rfl⟩, rfl⟩
  refine F.qn rfl (r_assign rfl) (F.nil (Nrm.seq (Tri.ret ?_)))
  refine Rtn.then ?_
  cases h
  exact Rtn.body (.tmp rfl .nil) (fun w hw => ⟨_, _, rfl, ⟨rfl, rfl⟩, Sep.pick (is := [0]) rfl rfl hw⟩)
 ·replace h := if_ff g_1 h
  refine Tri.skip (Nrm.seq (Tri.seq (Tri.reg (l := [0]) rfl ?_)))
  refine F.qn rfl (r_assign rfl) (F.nil (Nrm.seq (Tri.seq (Tri.seq ?_))))
  obtain ⟨⟨t11_1, t11_2, t11_3⟩, h11, h⟩ := bind_some h
  refine Tri.reg (l := [0, 1, 2]) rfl ?_
  refine F.qn rfl (r_move rfl) ?_
  refine F.efn rfl (d_callM (xs := _) (cs := [R.box pa0 114 [va0_0, .int .i64 t6_2, .int .u64 t6_3]]) (rest := []) [0] [] rfl ok115 rfl rfl rfl rfl (fun w hw => spec_l1Cur_pick.ok h11 w (hr_a0_0.down hw) (Sep.sub hw))) ?_
  rintro _ _ ⟨_, ⟨rfl, rfl⟩, rfl⟩
  refine F.qn rfl (r_assign rfl) (F.nil (Nrm.seq ?_))
  obtain ⟨⟨x3, xpa0_1, xpa0_2⟩, hE_1, h⟩ := bind_some h
  refine Tri.block ?_
  refine Tri.only [0, 3, 4] rfl ?_
  refine Tri.pick [0] rfl rfl ?_
  refine Tri.rounds (fun n e' C' => ∃ (x3' : Int) (x4' : Int) (xpa0_1' : Int) (xpa0_2' : Int), spec_l1Cur_colours.l0 k a0_0 n x3' x4' xpa0_1' xpa0_2' = some (x3, xpa0_1, xpa0_2) ∧ e' = [(0, .pointer (some ⟨pa0, 0, none⟩)), (3, .int .i64 x3'), (4, .int .i64 x4')] ∧ C' = Sep w (footM [R.box pa0 114 [va0_0, .int .i64 a0_1, .int .u64 a0_2]]) [R.box pa0 114 [va0_0, .int .i64 xpa0_1', .int .u64 xpa0_2']]) k ?_ ?_ ?_
  ·exact ⟨0, t11_1, t11_2, t11_3, hE_1, rfl, rfl⟩
  ·rintro _ _ ⟨_, _, _, _, hE_1, _⟩
   rw [spec_l1Cur_colours.l0.eq_1] at hE_1; cases hE_1
  ·rintro n_1 _ _ ⟨x3, x4, xpa0_1, xpa0_2, hE_1, rfl, rfl⟩ ih_1
   rw [spec_l1Cur_colours.l0.eq_2] at hE_1
   refine Tri.seq (Tri.seq (Tri.reg (l := [0, 1]) rfl ?_))
   refine F.qn rfl (r_move rfl) (F.qn rfl (r_gtr rfl rfl) (F.nil (Nrm.seq (Tri.cond (b := decide (x4 > 0)) rfl (fun g_2 => ?_) (fun g_2 => ?_)))))
   ·replace hE_1 := if_tt g_2 hE_1
    refine Tri.skip (Nrm.seq (Tri.seq (Tri.block ?_)))
    obtain ⟨⟨t18_1, t18_2, t18_3⟩, h18, hE_1⟩ := bind_some hE_1
    obtain ⟨hs19, hE_1⟩ := ck hE_1
    refine Tri.reg (l := [0, 1, 2, 3, 4, 5]) rfl ?_
    refine F.qn rfl (r_move rfl) (F.qn rfl (r_move rfl) ?_)
    refine F.efn rfl (d_callM (xs := _) (cs := [R.box pa0 114 [va0_0, .int .i64 xpa0_1, .int .u64 xpa0_2]]) (rest := []) [0] [] rfl ok115 rfl rfl rfl rfl (fun w hw => spec_l1Cur_pick.ok h18 w (hr_a0_0.down hw) (Sep.sub hw))) ?_
    rintro _ _ ⟨_, ⟨rfl, rfl⟩, rfl⟩
    refine F.qn rfl (r_shl rfl rfl hs19) (F.qn rfl (r_or rfl rfl) (F.qn rfl (r_assign rfl) (F.nil (Nrm.block ?_))))
    refine Nrm.seq (Tri.reg (l := [0, 1, 2]) rfl ?_)
    refine F.qn rfl (r_move rfl) (F.qn rfl (r_sub rfl rfl) (F.qn rfl (r_assign rfl) (F.nil (Nrm.round ?_))))
    refine Rnd.only [0, 3, 4] rfl ?_
    refine Rnd.pick [0] rfl rfl ?_
    exact ih_1 _ _ ⟨bor x3 (shl 1 t18_1), w64 (x4 - 1), t18_2, t18_3, hE_1, rfl, rfl⟩
   ·replace hE_1 := if_ff g_2 hE_1
    refine Tri.exit ?_
    refine Exi.then ?_
    refine Exi.then ?_
    refine Exi.same ?_
    cases hE_1
    refine Nrm.seq (Tri.seq (Tri.reg (l := [0, 1]) rfl ?_))
    refine F.qn rfl (r_move rfl) (F.qn rfl (r_assign rfl) (F.nil (Nrm.seq (Tri.ret ?_))))
    cases h
    exact Rtn.body (.tmp rfl .nil) (fun w hw => ⟨_, _, rfl, ⟨rfl, rfl⟩, Sep.pick (is := [0]) rfl rfl hw⟩)


def spec_l1Cur_deed12.f (k : Nat) (a0_0 : List By) (a0_1 : Int) (a0_2 : Int) (a1_0 : Int) (a1_1 : List (Int × Int × Int)) (a1_2 : List Int) (a1_3 : List Int) (a1_4 : Int) : Option (Int × Int × Int × Int × Int × Int) := (spec_l1Cur_among.f k a0_0 a0_1 a0_2 ([1, 1, 1, 1, 2, 3, 4, 5] : List (Int))).bind fun (t10_1, t10_2, t10_3) => (spec_l1Least.f k a1_0 12).bind fun t15 => (spec_l1Most.f k 1 t15).bind fun t16 => ((if (t10_1 == 1) = true then (spec_l1Cur_pick.f k a0_0 t10_2 t10_3 t16).bind fun (t23_1, t23_2, t23_3) => ((spec_l12Good.f k a1_0 a1_1 a1_2 a1_3 a1_4).bind fun t26 => (if t26 = true then (spec_l1Cur_one.f k a0_0 t23_2 t23_3 6).bind fun (t29_1, t29_2, t29_3) => some (!t29_1, t29_2, t29_3) else some (false, t23_2, t23_3))).bind fun (y31, ypa0_1, ypa0_2) => ((if y31 = true then (spec_l12Ahead.f k a1_0 a1_1 a1_2 a1_3 a1_4).bind fun t33 => (spec_l1Cur_pick.f k a0_0 ypa0_1 ypa0_2 (t33.length : Int)).bind fun (t38_1, t38_2, t38_3) => (rdl t33 t38_1).bind fun t39 => some (t38_2, t38_3, t39) else some (ypa0_1, ypa0_2, t23_1))).bind fun (ypa0_1r, ypa0_2r, yb5_1_1) => some (ypa0_1r, ypa0_2r, yb5_1_1, (0 : Int), (0 : Int)) else ((if (t10_1 == 3) = true then (spec_l1Cur_pick.f k a0_0 t10_2 t10_3 t16).bind fun (t46_1, t46_2, t46_3) => (spec_l1Cur_colours.f k a0_0 t46_2 t46_3).bind fun (t49_1, t49_2, t49_3) => some (t49_2, t49_3, t46_1, t49_1, (0 : Int)) else ((if (t10_1 == 4) = true then (spec_l1Cur_pick.f k a0_0 t10_2 t10_3 t16).bind fun (t55_1, t55_2, t55_3) => (spec_l1Cur_pick.f k a0_0 t55_2 t55_3 t16).bind fun (t59_1, t59_2, t59_3) => (spec_l1Cur_few.f k a0_0 t59_2 t59_3 3).bind fun (t62_1, t62_2, t62_3) => some (t62_2, t62_3, t55_1, t59_1, t62_1) else ((if (t10_1 == 5) = true then (spec_l1Least.f k (a1_1.length : Int) 30).bind fun t71 => (spec_l1Most.f k 1 t71).bind fun t72 => (spec_l1Cur_pick.f k a0_0 t10_2 t10_3 t72).bind fun (t73_1, t73_2, t73_3) => some (t73_2, t73_3, t73_1) else some (t10_2, t10_3, (0 : Int)))).bind fun (ypa0_1rr, ypa0_2rr, yb5_1_1r) => some (ypa0_1rr, ypa0_2rr, yb5_1_1r, (0 : Int), (0 : Int)))).bind fun (ypa0_1rr, ypa0_2rr, yb5_1_1r, yb5_1_2, yb5_1_3) => some (ypa0_1rr, ypa0_2rr, yb5_1_1r, yb5_1_2, yb5_1_3))).bind fun (ypa0_1rr, ypa0_2rr, yb5_1_1r, yb5_1_2, yb5_1_3) => some (ypa0_1rr, ypa0_2rr, yb5_1_1r, yb5_1_2, yb5_1_3))).bind fun (ypa0_1, ypa0_2, yb5_1_1, yb5_1_2, yb5_1_3) => (spec_l1Cur_pick.f k a0_0 ypa0_1 ypa0_2 32).bind fun (t76_1, t76_2, t76_3) => ((if (t76_1 == 0) = true then (spec_l1Cur_among.f k a0_0 t76_2 t76_3 ([(-1), 12, 30, 4611686018427387904] : List (Int))).bind fun (t81_1, t81_2, t81_3) => some (t81_2, t81_3, t10_1, t81_1, yb5_1_2, yb5_1_3) else ((if (t76_1 == 1) = true then (spec_l1Cur_among.f k a0_0 t76_2 t76_3 ([(-1), 1, 64] : List (Int))).bind fun (t87_1, t87_2, t87_3) => some (t87_2, t87_3, t10_1, t87_1, yb5_1_3) else ((if (t76_1 == 2) = true then (spec_l1Cur_among.f k a0_0 t76_2 t76_3 ([1, 64, (-1)] : List (Int))).bind fun (t93_1, t93_2, t93_3) => some (t93_2, t93_3, t10_1, t93_1) else ((if (t76_1 == 3) = true then (spec_l1Cur_among.f k a0_0 t76_2 t76_3 ([0, 6, (-1)] : List (Int))).bind fun (t99_1, t99_2, t99_3) => some (t99_2, t99_3, t99_1) else some (t76_2, t76_3, t10_1))).bind fun (ypa0_1rrr, ypa0_2rrr, yb5_1_0) => some (ypa0_1rrr, ypa0_2rrr, yb5_1_0, yb5_1_3))).bind fun (ypa0_1rrr, ypa0_2rrr, yb5_1_0, yb5_1_3r) => some (ypa0_1rrr, ypa0_2rrr, yb5_1_0, yb5_1_2, yb5_1_3r))).bind fun (ypa0_1rrr, ypa0_2rrr, yb5_1_0, yb5_1_2r, yb5_1_3r) => some (ypa0_1rrr, ypa0_2rrr, yb5_1_0, yb5_1_1, yb5_1_2r, yb5_1_3r))).bind fun (ypa0_1rrr, ypa0_2rrr, yb5_1_0, yb5_1_1rr, yb5_1_2r, yb5_1_3r) => some (yb5_1_0, yb5_1_1rr, yb5_1_2r, yb5_1_3r, ypa0_1rrr, ypa0_2rrr)

theorem spec_l1Cur_deed12.ok {k : Nat}  {a0_0 : List By} {a0_1 : Int} {a0_2 : Int} {a1_0 : Int} {a1_1 : List (Int × Int × Int)} {a1_2 : List Int} {a1_3 : List Int} {a1_4 : Int} {r0 : Int} {r1 : Int} {r2 : Int} {r3 : Int} {r4 : Int} {r5 : Int} (h : spec_l1Cur_deed12.f k a0_0 a0_1 a0_2 a1_0 a1_1 a1_2 a1_3 a1_4 = some (r0, r1, r2, r3, r4, r5)) (w : World) {pa0 : Nat} {va0_0 : Value} (hr_a0_0 : RdM w (footM [R.box pa0 114 [va0_0, .int .i64 a0_1, .int .u64 a0_2]]) va0_0 a0_0) {va1_1 : Value} (hr_a1_1 : RdM w (footM [R.box pa0 114 [va0_0, .int .i64 a0_1, .int .u64 a0_2]]) va1_1 a1_1) {va1_2 : Value} (hr_a1_2 : RdM w (footM [R.box pa0 114 [va0_0, .int .i64 a0_1, .int .u64 a0_2]]) va1_2 a1_2) {va1_3 : Value} (hr_a1_3 : RdM w (footM [R.box pa0 114 [va0_0, .int .i64 a0_1, .int .u64 a0_2]]) va1_3 a1_3) (hw0 : Sep w (footM [R.box pa0 114 [va0_0, .int .i64 a0_1, .int .u64 a0_2]]) [R.box pa0 114 [va0_0, .int .i64 a0_1, .int .u64 a0_2]] w) :
  Calls Tryz.prog 111 ([.pointer (some ⟨pa0, 0, none⟩), .agg ([.int .i64 a1_0, va1_1, va1_2, va1_3, .int .i64 a1_4].toArray)] : List Value).toArray w (PostM (footM [R.box pa0 114 [va0_0, .int .i64 a0_1, .int .u64 a0_2]]) (fun u ns => u = .agg [.int .i64 r0, .int .i64 r1, .int .i64 r2, .int .i64 r3].toArray ∧ ns = [R.box pa0 114 [va0_0, .int .i64 r4, .int .u64 r5]]) w) := by
 unfold spec_l1Cur_deed12.f at h
 have hl_va0_0 := hr_a0_0.len
 have hl_va1_1 := hr_a1_1.len
 have hl_va1_2 := hr_a1_2.len
 have hl_va1_3 := hr_a1_3.len
 refine Calls.of_tri (N := 102) Tryz.func111 rfl rfl rfl hw0 ?_
 refine Tri.seq (Tri.reg (l := [0, 1]) rfl ?_)
 refine F.mn rfl (m_boxG rfl rfl) ?_
 rintro _ _ ⟨b3_1, rfl, rfl⟩
 refine F.mn rfl (m_alloc ti48) ?_
 rintro _ _ ⟨b4_1, rfl, rfl⟩
 refine F.nil (Nrm.seq (Tri.seq ?_))
 obtain ⟨⟨t10_1, t10_2, t10_3⟩, h10, h⟩ := bind_some h
 refine Tri.reg (l := [0, 1, 2, 3, 4, 5]) rfl ?_
 refine F.qn rfl (r_move rfl) ?_
 refine F.mn rfl (m_buildF (l := ([1, 1, 1, 1, 2, 3, 4, 5] : List (Int))) Tryz.underlying25 ti3 rfl rfl rfl rfl rfl) ?_
 rintro v9_1 _ ⟨S9_1, hl_v9_1, rfl⟩
 refine F.efn rfl (d_callM (xs := _) (cs := [R.box pa0 114 [va0_0, .int .i64 a0_1, .int .u64 a0_2]]) (rest := [R.sl S9_1 v9_1 (([1, 1, 1, 1, 2, 3, 4, 5] : List (Int)) : List (Int)), R.box b4_1 48 [.int .i64 0, .int .i64 0, .int .i64 0, .int .i64 0], R.box b3_1 44 [.int .i64 a1_0, va1_1, va1_2, va1_3, .int .i64 a1_4]]) [3] [0, 1, 2] rfl ok194 rfl rfl rfl rfl (fun w hw => spec_l1Cur_among.ok h10 w (hr_a0_0.down hw) (rdm_sl (i := 0) rfl hw) (Sep.sub hw))) ?_
 rintro _ _ ⟨_, ⟨rfl, rfl⟩, rfl⟩
 refine F.qn rfl (r_build (pl := [(0, 1), (1, 1), (2, 1), (3, 1)]) (qs := [(0, [.int .i64 t10_1])]) (cs := [.int .i64 t10_1, .int .i64 0, .int .i64 0, .int .i64 0]) (by kernel_rfl) ti48 rfl (.cons rfl rfl (Nat.le_of_ble_eq_true rfl) .nil) rfl rfl) ?_
 refine F.mn rfl (m_alloc ti48) ?_
 rintro _ _ ⟨b5_1, rfl, rfl⟩
 refine F.ef0 rfl rfl (wanted_none rfl) (d_storeG0 (i := 0) (cs2 := [.int .i64 t10_1, .int .i64 0, .int .i64 0, .int .i64 0]) ti48 rfl rfl rfl rfl rfl (Nat.le_of_ble_eq_true rfl) (lf_cons rfl (lf_cons rfl (lf_cons rfl (lf_cons rfl lf_nil))))) ?_
 rintro _ _ ⟨rfl, rfl⟩
 refine F.nil (Nrm.seq (Tri.seq ?_))
 obtain ⟨t15, h15, h⟩ := bind_some h
 obtain ⟨t16, h16, h⟩ := bind_some h
 refine Tri.reg (l := [0, 1, 2, 3, 4, 5]) rfl ?_
 refine F.qn rfl (r_fieldAddr tf44_0 rfl) (F.qn rfl (r_fieldAddr tf27_0 rfl) (F.qn rfl (r_load ta3 rfl (fun w hw => cell_2 (box_cells (i := 4) rfl w hw) rfl)) ?_))
 refine F.qcn rfl (q_callF (xs := _) rfl ok199 rfl rfl (fun w hw => spec_l1Least.ok h15 w )) ?_
 refine F.qcn rfl (q_callF (xs := _) rfl ok198 rfl rfl (fun w hw => spec_l1Most.ok h16 w )) ?_
 refine F.qn rfl (r_assign rfl) (F.nil (Nrm.seq (Tri.seq (Tri.seq (Tri.reg (l := [0, 1]) rfl ?_)))))
 refine F.qn rfl (r_fieldAddr tf48_0 rfl) (F.qn rfl (r_load ta3 rfl (fun w hw => cell_1 (box_cells (i := 0) rfl w hw) rfl)) (F.nil (Nrm.seq (Tri.block ?_))))
 refine Tri.seq (Tri.reg (l := [0, 1]) rfl ?_)
 refine F.qn rfl (r_eql rfl rfl) (F.qn rfl (r_assign rfl) (F.nil (Nrm.seq ?_)))
 obtain ⟨⟨ypa0_1, ypa0_2, yb5_1_1, yb5_1_2, yb5_1_3⟩, hE_1, h⟩ := bind_some h
 refine Tri.cut (fun e' C' => e' = [(0, .pointer (some ⟨pa0, 0, none⟩)), (4, .pointer (some ⟨b4_1, 0, none⟩)), (5, .pointer (some ⟨b5_1, 0, none⟩))] ∧ C' = Sep w (footM [R.box pa0 114 [va0_0, .int .i64 a0_1, .int .u64 a0_2]]) [R.box pa0 114 [va0_0, .int .i64 ypa0_1, .int .u64 ypa0_2], R.box b5_1 48 [.int .i64 t10_1, .int .i64 yb5_1_1, .int .i64 yb5_1_2, .int .i64 yb5_1_3], R.box b4_1 48 [.int .i64 0, .int .i64 0, .int .i64 0, .int .i64 0]]) ?_ (fun hj_1 => ?_)
 ·rintro _ _ ⟨rfl, rfl⟩
  refine Nrm.block ?_
  refine Nrm.seq (Tri.seq (Tri.seq ?_))
  obtain ⟨⟨t76_1, t76_2, t76_3⟩, h76, h⟩ := bind_some h
  refine Tri.reg (l := [0, 1]) rfl ?_
  refine F.qn rfl (r_move rfl) ?_
  refine F.efn rfl (d_callM (xs := _) (cs := [R.box pa0 114 [va0_0, .int .i64 ypa0_1, .int .u64 ypa0_2]]) (rest := [R.box b5_1 48 [.int .i64 t10_1, .int .i64 yb5_1_1, .int .i64 yb5_1_2, .int .i64 yb5_1_3], R.box b4_1 48 [.int .i64 0, .int .i64 0, .int .i64 0, .int .i64 0]]) [0] [1, 2] rfl ok115 rfl rfl rfl rfl (fun w hw => spec_l1Cur_pick.ok h76 w (hr_a0_0.down hw) (Sep.sub hw))) ?_
  rintro _ _ ⟨_, ⟨rfl, rfl⟩, rfl⟩
  refine F.nil (Nrm.seq (Tri.block ?_))
  refine Tri.seq (Tri.reg (l := [0, 1]) rfl ?_)
  refine F.qn rfl (r_eql rfl rfl) (F.qn rfl (r_assign rfl) (F.nil (Nrm.seq ?_)))
  obtain ⟨⟨ypa0_1rrr, ypa0_2rrr, yb5_1_0, yb5_1_1rr, yb5_1_2r, yb5_1_3r⟩, hE_7, h⟩ := bind_some h
  refine Tri.cut (fun e' C' => e' = [(4, .pointer (some ⟨b4_1, 0, none⟩)), (5, .pointer (some ⟨b5_1, 0, none⟩))] ∧ C' = Sep w (footM [R.box pa0 114 [va0_0, .int .i64 a0_1, .int .u64 a0_2]]) [R.box pa0 114 [va0_0, .int .i64 ypa0_1rrr, .int .u64 ypa0_2rrr], R.box b5_1 48 [.int .i64 yb5_1_0, .int .i64 yb5_1_1rr, .int .i64 yb5_1_2r, .int .i64 yb5_1_3r], R.box b4_1 48 [.int .i64 0, .int .i64 0, .int .i64 0, .int .i64 0]]) ?_ (fun hj_7 => ?_)
  ·rintro _ _ ⟨rfl, rfl⟩
   refine Nrm.block ?_
   refine Nrm.seq (Tri.seq (Tri.reg (l := [0, 1]) rfl ?_))
   refine F.qn rfl (r_loadA ta48 ti48 rfl rfl (fun w hw => (box_cells (i := 1) rfl w hw))) ?_
   refine F.ef0 rfl rfl (wanted_none rfl) (d_storeG0 (i := 2) (cs2 := [.int .i64 yb5_1_0, .int .i64 yb5_1_1rr, .int .i64 yb5_1_2r, .int .i64 yb5_1_3r]) ti48 rfl rfl rfl rfl rfl (Nat.le_of_ble_eq_true rfl) (lf_cons rfl (lf_cons rfl (lf_cons rfl (lf_cons rfl lf_nil))))) ?_
   rintro _ _ ⟨rfl, rfl⟩
   refine F.nil (Nrm.seq (Tri.ret ?_))
   cases h
   exact Rtn.body (.cell rfl ta48 ti48 rfl (fun _ hw => box_cells (i := 2) rfl _ hw) .nil) (fun w hw => ⟨_, _, rfl, ⟨rfl, rfl⟩, Sep.pick (is := [0]) rfl rfl hw⟩)
  ·refine Tri.cond (b := t76_1 == 0) rfl (fun g_6 => ?_) (fun g_6 => ?_)
   ·replace hE_7 := if_tt g_6 hE_7
    obtain ⟨⟨t81_1, t81_2, t81_3⟩, h81, hE_7⟩ := bind_some hE_7
    refine Tri.reg (l := [0, 1, 2, 3, 4]) rfl ?_
    refine F.qn rfl (r_move rfl) ?_
    refine F.mn rfl (m_buildF (l := ([(-1), 12, 30, 4611686018427387904] : List (Int))) Tryz.underlying25 ti3 rfl rfl rfl rfl rfl) ?_
    rintro v80_1 _ ⟨S80_1, hl_v80_1, rfl⟩
    refine F.efn rfl (d_callM (xs := _) (cs := [R.box pa0 114 [va0_0, .int .i64 t76_2, .int .u64 t76_3]]) (rest := [R.sl S80_1 v80_1 (([(-1), 12, 30, 4611686018427387904] : List (Int)) : List (Int)), R.box b5_1 48 [.int .i64 t10_1, .int .i64 yb5_1_1, .int .i64 yb5_1_2, .int .i64 yb5_1_3], R.box b4_1 48 [.int .i64 0, .int .i64 0, .int .i64 0, .int .i64 0]]) [1] [0, 2, 3] rfl ok194 rfl rfl rfl rfl (fun w hw => spec_l1Cur_among.ok h81 w (hr_a0_0.down hw) (rdm_sl (i := 0) rfl hw) (Sep.sub hw))) ?_
    rintro _ _ ⟨_, ⟨rfl, rfl⟩, rfl⟩
    refine F.qn rfl (r_fieldAddr tf48_1 rfl) ?_
    refine F.ef0 rfl rfl (wanted_none rfl) (d_storeG1 (i := 2) (cs2 := [.int .i64 t81_1]) ti3 rfl rfl rfl rfl rfl (Nat.le_of_ble_eq_true rfl) (lf_cons rfl lf_nil)) ?_
    rintro _ _ ⟨rfl, rfl⟩
    refine F.nil ?_
    cases hE_7
    refine Nrm.only [4, 5] rfl ?_
    refine Nrm.pick [0, 2, 3] rfl rfl ?_
    exact hj_7 _ _ ⟨rfl, rfl⟩
   ·replace hE_7 := if_ff g_6 hE_7
    refine Tri.seq (Tri.reg (l := [0, 1]) rfl ?_)
    refine F.qn rfl (r_eql rfl rfl) (F.qn rfl (r_assign rfl) (F.nil (Nrm.seq ?_)))
    obtain ⟨⟨ypa0_1rrr, ypa0_2rrr, yb5_1_0, yb5_1_2r, yb5_1_3r⟩, hE_8, hE_7⟩ := bind_some hE_7
    refine Tri.cut (fun e' C' => e' = [(4, .pointer (some ⟨b4_1, 0, none⟩)), (5, .pointer (some ⟨b5_1, 0, none⟩))] ∧ C' = Sep w (footM [R.box pa0 114 [va0_0, .int .i64 a0_1, .int .u64 a0_2]]) [R.box pa0 114 [va0_0, .int .i64 ypa0_1rrr, .int .u64 ypa0_2rrr], R.box b5_1 48 [.int .i64 yb5_1_0, .int .i64 yb5_1_1, .int .i64 yb5_1_2r, .int .i64 yb5_1_3r], R.box b4_1 48 [.int .i64 0, .int .i64 0, .int .i64 0, .int .i64 0]]) ?_ (fun hj_8 => ?_)
    ·rintro _ _ ⟨rfl, rfl⟩
     cases hE_7
     refine Nrm.only [4, 5] rfl ?_
     refine Nrm.pick [0, 1, 2] rfl rfl ?_
     exact hj_7 _ _ ⟨rfl, rfl⟩
    ·refine Tri.cond (b := t76_1 == 1) rfl (fun g_7 => ?_) (fun g_7 => ?_)
     ·replace hE_8 := if_tt g_7 hE_8
      obtain ⟨⟨t87_1, t87_2, t87_3⟩, h87, hE_8⟩ := bind_some hE_8
      refine Tri.reg (l := [0, 1, 2, 3, 4]) rfl ?_
      refine F.qn rfl (r_move rfl) ?_
      refine F.mn rfl (m_buildF (l := ([(-1), 1, 64] : List (Int))) Tryz.underlying25 ti3 rfl rfl rfl rfl rfl) ?_
      rintro v86_1 _ ⟨S86_1, hl_v86_1, rfl⟩
      refine F.efn rfl (d_callM (xs := _) (cs := [R.box pa0 114 [va0_0, .int .i64 t76_2, .int .u64 t76_3]]) (rest := [R.sl S86_1 v86_1 (([(-1), 1, 64] : List (Int)) : List (Int)), R.box b5_1 48 [.int .i64 t10_1, .int .i64 yb5_1_1, .int .i64 yb5_1_2, .int .i64 yb5_1_3], R.box b4_1 48 [.int .i64 0, .int .i64 0, .int .i64 0, .int .i64 0]]) [1] [0, 2, 3] rfl ok194 rfl rfl rfl rfl (fun w hw => spec_l1Cur_among.ok h87 w (hr_a0_0.down hw) (rdm_sl (i := 0) rfl hw) (Sep.sub hw))) ?_
      rintro _ _ ⟨_, ⟨rfl, rfl⟩, rfl⟩
      refine F.qn rfl (r_fieldAddr tf48_2 rfl) ?_
      refine F.ef0 rfl rfl (wanted_none rfl) (d_storeG1 (i := 2) (cs2 := [.int .i64 t87_1]) ti3 rfl rfl rfl rfl rfl (Nat.le_of_ble_eq_true rfl) (lf_cons rfl lf_nil)) ?_
      rintro _ _ ⟨rfl, rfl⟩
      refine F.nil ?_
      cases hE_8
      refine Nrm.only [4, 5] rfl ?_
      refine Nrm.pick [0, 2, 3] rfl rfl ?_
      exact hj_8 _ _ ⟨rfl, rfl⟩
     ·replace hE_8 := if_ff g_7 hE_8
      refine Tri.seq (Tri.reg (l := [0, 1]) rfl ?_)
      refine F.qn rfl (r_eql rfl rfl) (F.qn rfl (r_assign rfl) (F.nil (Nrm.seq ?_)))
      obtain ⟨⟨ypa0_1rrr, ypa0_2rrr, yb5_1_0, yb5_1_3r⟩, hE_9, hE_8⟩ := bind_some hE_8
      refine Tri.cut (fun e' C' => e' = [(4, .pointer (some ⟨b4_1, 0, none⟩)), (5, .pointer (some ⟨b5_1, 0, none⟩))] ∧ C' = Sep w (footM [R.box pa0 114 [va0_0, .int .i64 a0_1, .int .u64 a0_2]]) [R.box pa0 114 [va0_0, .int .i64 ypa0_1rrr, .int .u64 ypa0_2rrr], R.box b5_1 48 [.int .i64 yb5_1_0, .int .i64 yb5_1_1, .int .i64 yb5_1_2, .int .i64 yb5_1_3r], R.box b4_1 48 [.int .i64 0, .int .i64 0, .int .i64 0, .int .i64 0]]) ?_ (fun hj_9 => ?_)
      ·rintro _ _ ⟨rfl, rfl⟩
       cases hE_8
       refine Nrm.only [4, 5] rfl ?_
       refine Nrm.pick [0, 1, 2] rfl rfl ?_
       exact hj_8 _ _ ⟨rfl, rfl⟩
      ·refine Tri.cond (b := t76_1 == 2) rfl (fun g_8 => ?_) (fun g_8 => ?_)
       ·replace hE_9 := if_tt g_8 hE_9
        obtain ⟨⟨t93_1, t93_2, t93_3⟩, h93, hE_9⟩ := bind_some hE_9
        refine Tri.reg (l := [0, 1, 2, 3, 4]) rfl ?_
        refine F.qn rfl (r_move rfl) ?_
        refine F.mn rfl (m_buildF (l := ([1, 64, (-1)] : List (Int))) Tryz.underlying25 ti3 rfl rfl rfl rfl rfl) ?_
        rintro v92_1 _ ⟨S92_1, hl_v92_1, rfl⟩
        refine F.efn rfl (d_callM (xs := _) (cs := [R.box pa0 114 [va0_0, .int .i64 t76_2, .int .u64 t76_3]]) (rest := [R.sl S92_1 v92_1 (([1, 64, (-1)] : List (Int)) : List (Int)), R.box b5_1 48 [.int .i64 t10_1, .int .i64 yb5_1_1, .int .i64 yb5_1_2, .int .i64 yb5_1_3], R.box b4_1 48 [.int .i64 0, .int .i64 0, .int .i64 0, .int .i64 0]]) [1] [0, 2, 3] rfl ok194 rfl rfl rfl rfl (fun w hw => spec_l1Cur_among.ok h93 w (hr_a0_0.down hw) (rdm_sl (i := 0) rfl hw) (Sep.sub hw))) ?_
        rintro _ _ ⟨_, ⟨rfl, rfl⟩, rfl⟩
        refine F.qn rfl (r_fieldAddr tf48_3 rfl) ?_
        refine F.ef0 rfl rfl (wanted_none rfl) (d_storeG1 (i := 2) (cs2 := [.int .i64 t93_1]) ti3 rfl rfl rfl rfl rfl (Nat.le_of_ble_eq_true rfl) (lf_cons rfl lf_nil)) ?_
        rintro _ _ ⟨rfl, rfl⟩
        refine F.nil ?_
        cases hE_9
        refine Nrm.only [4, 5] rfl ?_
        refine Nrm.pick [0, 2, 3] rfl rfl ?_
        exact hj_9 _ _ ⟨rfl, rfl⟩
       ·replace hE_9 := if_ff g_8 hE_9
        refine Tri.seq (Tri.reg (l := [0, 1]) rfl ?_)
        refine F.qn rfl (r_eql rfl rfl) (F.qn rfl (r_assign rfl) (F.nil (Nrm.seq ?_)))
        obtain ⟨⟨ypa0_1rrr, ypa0_2rrr, yb5_1_0⟩, hE_10, hE_9⟩ := bind_some hE_9
        refine Tri.cut (fun e' C' => e' = [(4, .pointer (some ⟨b4_1, 0, none⟩)), (5, .pointer (some ⟨b5_1, 0, none⟩))] ∧ C' = Sep w (footM [R.box pa0 114 [va0_0, .int .i64 a0_1, .int .u64 a0_2]]) [R.box pa0 114 [va0_0, .int .i64 ypa0_1rrr, .int .u64 ypa0_2rrr], R.box b5_1 48 [.int .i64 yb5_1_0, .int .i64 yb5_1_1, .int .i64 yb5_1_2, .int .i64 yb5_1_3], R.box b4_1 48 [.int .i64 0, .int .i64 0, .int .i64 0, .int .i64 0]]) ?_ (fun hj_10 => ?_)
        ·rintro _ _ ⟨rfl, rfl⟩
         cases hE_9
         refine Nrm.only [4, 5] rfl ?_
         refine Nrm.pick [0, 1, 2] rfl rfl ?_
         exact hj_9 _ _ ⟨rfl, rfl⟩
        ·refine Tri.cond (b := t76_1 == 3) rfl (fun g_9 => ?_) (fun g_9 => ?_)
         ·replace hE_10 := if_tt g_9 hE_10
          obtain ⟨⟨t99_1, t99_2, t99_3⟩, h99, hE_10⟩ := bind_some hE_10
          refine Tri.reg (l := [0, 1, 2, 3, 4]) rfl ?_
          refine F.qn rfl (r_move rfl) ?_
          refine F.mn rfl (m_buildF (l := ([0, 6, (-1)] : List (Int))) Tryz.underlying25 ti3 rfl rfl rfl rfl rfl) ?_
          rintro v98_1 _ ⟨S98_1, hl_v98_1, rfl⟩
          refine F.efn rfl (d_callM (xs := _) (cs := [R.box pa0 114 [va0_0, .int .i64 t76_2, .int .u64 t76_3]]) (rest := [R.sl S98_1 v98_1 (([0, 6, (-1)] : List (Int)) : List (Int)), R.box b5_1 48 [.int .i64 t10_1, .int .i64 yb5_1_1, .int .i64 yb5_1_2, .int .i64 yb5_1_3], R.box b4_1 48 [.int .i64 0, .int .i64 0, .int .i64 0, .int .i64 0]]) [1] [0, 2, 3] rfl ok194 rfl rfl rfl rfl (fun w hw => spec_l1Cur_among.ok h99 w (hr_a0_0.down hw) (rdm_sl (i := 0) rfl hw) (Sep.sub hw))) ?_
          rintro _ _ ⟨_, ⟨rfl, rfl⟩, rfl⟩
          refine F.qn rfl (r_fieldAddr tf48_0 rfl) ?_
          refine F.ef0 rfl rfl (wanted_none rfl) (d_storeG1 (i := 2) (cs2 := [.int .i64 t99_1]) ti3 rfl rfl rfl rfl rfl (Nat.le_of_ble_eq_true rfl) (lf_cons rfl lf_nil)) ?_
          rintro _ _ ⟨rfl, rfl⟩
          refine F.nil ?_
          cases hE_10
          refine Nrm.only [4, 5] rfl ?_
          refine Nrm.pick [0, 2, 3] rfl rfl ?_
          exact hj_10 _ _ ⟨rfl, rfl⟩
         ·replace hE_10 := if_ff g_9 hE_10
          refine Tri.skip ?_
          cases hE_10
          refine Nrm.only [4, 5] rfl ?_
          refine Nrm.pick [0, 1, 2] rfl rfl ?_
          exact hj_10 _ _ ⟨rfl, rfl⟩
 ·refine Tri.cond (b := t10_1 == 1) rfl (fun g_1 => ?_) (fun g_1 => ?_)
  ·replace hE_1 := if_tt g_1 hE_1
   refine Tri.seq ?_
   obtain ⟨⟨t23_1, t23_2, t23_3⟩, h23, hE_1⟩ := bind_some hE_1
   refine Tri.reg (l := [0, 1, 2, 3, 4]) rfl ?_
   refine F.qn rfl (r_move rfl) (F.qn rfl (r_move rfl) ?_)
   refine F.efn rfl (d_callM (xs := _) (cs := [R.box pa0 114 [va0_0, .int .i64 t10_2, .int .u64 t10_3]]) (rest := [R.box b5_1 48 [.int .i64 t10_1, .int .i64 0, .int .i64 0, .int .i64 0], R.sl S9_1 v9_1 (([1, 1, 1, 1, 2, 3, 4, 5] : List (Int)) : List (Int)), R.box b4_1 48 [.int .i64 0, .int .i64 0, .int .i64 0, .int .i64 0], R.box b3_1 44 [.int .i64 a1_0, va1_1, va1_2, va1_3, .int .i64 a1_4]]) [1] [0, 2, 3, 4] rfl ok115 rfl rfl rfl rfl (fun w hw => spec_l1Cur_pick.ok h23 w (hr_a0_0.down hw) (Sep.sub hw))) ?_
   rintro _ _ ⟨_, ⟨rfl, rfl⟩, rfl⟩
   refine F.qn rfl (r_fieldAddr tf48_1 rfl) ?_
   refine F.ef0 rfl rfl (wanted_none rfl) (d_storeG1 (i := 1) (cs2 := [.int .i64 t23_1]) ti3 rfl rfl rfl rfl rfl (Nat.le_of_ble_eq_true rfl) (lf_cons rfl lf_nil)) ?_
   rintro _ _ ⟨rfl, rfl⟩
   refine F.nil (Nrm.seq (Tri.seq ?_))
   obtain ⟨⟨y31, ypa0_1, ypa0_2⟩, hE_2, hE_1⟩ := bind_some hE_1
   refine Tri.cut (fun e' C' => e' = [(0, .pointer (some ⟨pa0, 0, none⟩)), (3, .pointer (some ⟨b3_1, 0, none⟩)), (4, .pointer (some ⟨b4_1, 0, none⟩)), (5, .pointer (some ⟨b5_1, 0, none⟩)), (31, .bool y31)] ∧ C' = Sep w (footM [R.box pa0 114 [va0_0, .int .i64 a0_1, .int .u64 a0_2]]) [R.box pa0 114 [va0_0, .int .i64 ypa0_1, .int .u64 ypa0_2], R.box b5_1 48 [.int .i64 t10_1, .int .i64 t23_1, .int .i64 0, .int .i64 0], R.box b4_1 48 [.int .i64 0, .int .i64 0, .int .i64 0, .int .i64 0], R.box b3_1 44 [.int .i64 a1_0, va1_1, va1_2, va1_3, .int .i64 a1_4]]) ?_ (fun hj_2 => ?_)
   ·rintro _ _ ⟨rfl, rfl⟩
    refine Nrm.seq ?_
    obtain ⟨⟨ypa0_1r, ypa0_2r, yb5_1_1⟩, hE_3, hE_1⟩ := bind_some hE_1
    refine Tri.cut (fun e' C' => e' = [(0, .pointer (some ⟨pa0, 0, none⟩)), (4, .pointer (some ⟨b4_1, 0, none⟩)), (5, .pointer (some ⟨b5_1, 0, none⟩))] ∧ C' = Sep w (footM [R.box pa0 114 [va0_0, .int .i64 a0_1, .int .u64 a0_2]]) [R.box pa0 114 [va0_0, .int .i64 ypa0_1r, .int .u64 ypa0_2r], R.box b5_1 48 [.int .i64 t10_1, .int .i64 yb5_1_1, .int .i64 0, .int .i64 0], R.box b4_1 48 [.int .i64 0, .int .i64 0, .int .i64 0, .int .i64 0]]) ?_ (fun hj_3 => ?_)
    ·rintro _ _ ⟨rfl, rfl⟩
     cases hE_1
     refine Nrm.only [0, 4, 5] rfl ?_
     refine Nrm.pick [0, 1, 2] rfl rfl ?_
     exact hj_1 _ _ ⟨rfl, rfl⟩
    ·refine Tri.cond (b := y31) rfl (fun g_2 => ?_) (fun g_2 => ?_)
     ·replace hE_3 := if_tt g_2 hE_3
      refine Tri.seq ?_
      obtain ⟨t33, h33, hE_3⟩ := bind_some hE_3
      refine Tri.reg (l := [0, 1, 2]) rfl ?_
      refine F.qn rfl (r_loadA ta44 ti44 rfl rfl (fun w hw => (box_cells (i := 3) rfl w hw))) ?_
      refine F.mn rfl (m_callF (xs := _) rfl ok121 rfl rfl (fun w hw => spec_l12Ahead.ok h33 w ((fun _ hw => hr_a1_1.sep hw) w hw) ((fun _ hw => hr_a1_2.sep hw) w hw) ((fun _ hw => hr_a1_3.sep hw) w hw))) ?_
      rintro v33_1 _ ⟨_, ⟨S33_1, hl_v33_1, rfl⟩, rfl⟩
      refine F.qn rfl (r_assign rfl) (F.nil (Nrm.seq ?_))
      obtain ⟨⟨t38_1, t38_2, t38_3⟩, h38, hE_3⟩ := bind_some hE_3
      obtain ⟨t39, h39, hE_3⟩ := bind_some hE_3
      refine Tri.reg (l := [0, 1, 2, 3, 4, 5, 6, 7, 8]) rfl ?_
      iterate 3 refine F.qn rfl (r_move rfl) ?_
      refine F.qn rfl (r_len Tryz.underlying25 rfl hl_v33_1) ?_
      refine F.efn rfl (d_callM (xs := _) (cs := [R.box pa0 114 [va0_0, .int .i64 ypa0_1, .int .u64 ypa0_2]]) (rest := [R.sl S33_1 v33_1 (t33 : List (Int)), R.box b5_1 48 [.int .i64 t10_1, .int .i64 t23_1, .int .i64 0, .int .i64 0], R.box b4_1 48 [.int .i64 0, .int .i64 0, .int .i64 0, .int .i64 0], R.box b3_1 44 [.int .i64 a1_0, va1_1, va1_2, va1_3, .int .i64 a1_4]]) [1] [0, 2, 3, 4] rfl ok115 rfl rfl rfl rfl (fun w hw => spec_l1Cur_pick.ok h38 w (hr_a0_0.down hw) (Sep.sub hw))) ?_
      rintro _ _ ⟨_, ⟨rfl, rfl⟩, rfl⟩
      refine F.qn rfl (r_indexAddrS Tryz.underlying25 ti3 rfl hl_v33_1 rfl (rdl_some h39).1 (rdl_some h39).2.1) (F.qn rfl (r_load ta3 rfl (fun w hw => cell_0 (Rd.flat ((rd_sl (i := 1) rfl) w hw) (rdl_some h39).2.2) rfl)) (F.qn rfl (r_fieldAddr tf48_1 rfl) ?_))
      refine F.ef0 rfl rfl (wanted_none rfl) (d_storeG1 (i := 2) (cs2 := [.int .i64 t39]) ti3 rfl rfl rfl rfl rfl (Nat.le_of_ble_eq_true rfl) (lf_cons rfl lf_nil)) ?_
      rintro _ _ ⟨rfl, rfl⟩
      refine F.nil ?_
      cases hE_3
      refine Nrm.only [0, 4, 5] rfl ?_
      refine Nrm.pick [0, 2, 3] rfl rfl ?_
      exact hj_3 _ _ ⟨rfl, rfl⟩
     ·replace hE_3 := if_ff g_2 hE_3
      refine Tri.skip ?_
      cases hE_3
      refine Nrm.only [0, 4, 5] rfl ?_
      refine Nrm.pick [0, 1, 2] rfl rfl ?_
      exact hj_3 _ _ ⟨rfl, rfl⟩
   ·obtain ⟨t26, h26, hE_2⟩ := bind_some hE_2
    rcases Bool.eq_false_or_eq_true (t26) with g27 | g27
    ·replace hE_2 := if_tt g27 hE_2
     obtain ⟨⟨t29_1, t29_2, t29_3⟩, h29, hE_2⟩ := bind_some hE_2
     refine Tri.reg (l := [0, 1, 2, 3, 4, 5, 6]) rfl ?_
     refine F.qn rfl (r_loadA ta44 ti44 rfl rfl (fun w hw => (box_cells (i := 4) rfl w hw))) ?_
     refine F.qcn rfl (q_callF (xs := _) rfl ok113 rfl rfl (fun w hw => spec_l12Good.ok h26 w ((fun _ hw => hr_a1_1.sep hw) w hw) ((fun _ hw => hr_a1_2.sep hw) w hw) ((fun _ hw => hr_a1_3.sep hw) w hw))) ?_
     refine F.qn rfl (r_move rfl) (F.qg rfl g27 (r_move rfl) ?_)
     refine F.ef rfl rfl rfl (wg rfl rfl rfl g27) (d_callM (xs := _) (cs := [R.box pa0 114 [va0_0, .int .i64 t23_2, .int .u64 t23_3]]) (rest := [R.box b5_1 48 [.int .i64 t10_1, .int .i64 t23_1, .int .i64 0, .int .i64 0], R.sl S9_1 v9_1 (([1, 1, 1, 1, 2, 3, 4, 5] : List (Int)) : List (Int)), R.box b4_1 48 [.int .i64 0, .int .i64 0, .int .i64 0, .int .i64 0], R.box b3_1 44 [.int .i64 a1_0, va1_1, va1_2, va1_3, .int .i64 a1_4]]) [0] [1, 2, 3, 4] rfl ok200 rfl rfl rfl rfl (fun w hw => spec_l1Cur_one.ok h29 w (hr_a0_0.down hw) (Sep.sub hw))) ?_
     rintro _ _ ⟨_, ⟨rfl, rfl⟩, rfl⟩
     refine F.qg rfl g27 (r_not rfl) (F.qn rfl (r_pick rfl rfl g27) (F.nil ?_))
     cases hE_2
     refine Nrm.only [0, 3, 4, 5, 31] rfl ?_
     refine Nrm.pick [0, 1, 3, 4] rfl rfl ?_
     exact hj_2 _ _ ⟨rfl, rfl⟩
    ·replace hE_2 := if_ff g27 hE_2
     refine Tri.reg (l := [0, 1, 2, 3, 4, 5, 6]) rfl ?_
     refine F.qn rfl (r_loadA ta44 ti44 rfl rfl (fun w hw => (box_cells (i := 4) rfl w hw))) ?_
     refine F.qcn rfl (q_callF (xs := _) rfl ok113 rfl rfl (fun w hw => spec_l12Good.ok h26 w ((fun _ hw => hr_a1_1.sep hw) w hw) ((fun _ hw => hr_a1_2.sep hw) w hw) ((fun _ hw => hr_a1_3.sep hw) w hw))) ?_
     refine F.qn rfl (r_move rfl) ?_
     iterate 3 refine F.skf rfl g27 ?_
     refine F.qn rfl (r_pickf rfl rfl g27) (F.nil ?_)
     cases hE_2
     refine Nrm.only [0, 3, 4, 5, 31] rfl ?_
     refine Nrm.pick [0, 1, 3, 4] rfl rfl ?_
     exact hj_2 _ _ ⟨rfl, rfl⟩
  ·replace hE_1 := if_ff g_1 hE_1
   refine Tri.seq (Tri.reg (l := [0, 1]) rfl ?_)
   refine F.qn rfl (r_eql rfl rfl) (F.qn rfl (r_assign rfl) (F.nil (Nrm.seq ?_)))
   obtain ⟨⟨ypa0_1rr, ypa0_2rr, yb5_1_1r, yb5_1_2, yb5_1_3⟩, hE_4, hE_1⟩ := bind_some hE_1
   refine Tri.cut (fun e' C' => e' = [(0, .pointer (some ⟨pa0, 0, none⟩)), (4, .pointer (some ⟨b4_1, 0, none⟩)), (5, .pointer (some ⟨b5_1, 0, none⟩))] ∧ C' = Sep w (footM [R.box pa0 114 [va0_0, .int .i64 a0_1, .int .u64 a0_2]]) [R.box pa0 114 [va0_0, .int .i64 ypa0_1rr, .int .u64 ypa0_2rr], R.box b5_1 48 [.int .i64 t10_1, .int .i64 yb5_1_1r, .int .i64 yb5_1_2, .int .i64 yb5_1_3], R.box b4_1 48 [.int .i64 0, .int .i64 0, .int .i64 0, .int .i64 0]]) ?_ (fun hj_4 => ?_)
   ·rintro _ _ ⟨rfl, rfl⟩
    cases hE_1
    refine Nrm.only [0, 4, 5] rfl ?_
    refine Nrm.pick [0, 1, 2] rfl rfl ?_
    exact hj_1 _ _ ⟨rfl, rfl⟩
   ·refine Tri.cond (b := t10_1 == 3) rfl (fun g_3 => ?_) (fun g_3 => ?_)
    ·replace hE_4 := if_tt g_3 hE_4
     refine Tri.seq ?_
     obtain ⟨⟨t46_1, t46_2, t46_3⟩, h46, hE_4⟩ := bind_some hE_4
     refine Tri.reg (l := [0, 1, 2, 3, 4]) rfl ?_
     refine F.qn rfl (r_move rfl) (F.qn rfl (r_move rfl) ?_)
     refine F.efn rfl (d_callM (xs := _) (cs := [R.box pa0 114 [va0_0, .int .i64 t10_2, .int .u64 t10_3]]) (rest := [R.box b5_1 48 [.int .i64 t10_1, .int .i64 0, .int .i64 0, .int .i64 0], R.sl S9_1 v9_1 (([1, 1, 1, 1, 2, 3, 4, 5] : List (Int)) : List (Int)), R.box b4_1 48 [.int .i64 0, .int .i64 0, .int .i64 0, .int .i64 0], R.box b3_1 44 [.int .i64 a1_0, va1_1, va1_2, va1_3, .int .i64 a1_4]]) [1] [0, 2, 3, 4] rfl ok115 rfl rfl rfl rfl (fun w hw => spec_l1Cur_pick.ok h46 w (hr_a0_0.down hw) (Sep.sub hw))) ?_
     rintro _ _ ⟨_, ⟨rfl, rfl⟩, rfl⟩
     refine F.qn rfl (r_fieldAddr tf48_1 rfl) ?_
     refine F.ef0 rfl rfl (wanted_none rfl) (d_storeG1 (i := 1) (cs2 := [.int .i64 t46_1]) ti3 rfl rfl rfl rfl rfl (Nat.le_of_ble_eq_true rfl) (lf_cons rfl lf_nil)) ?_
     rintro _ _ ⟨rfl, rfl⟩
     refine F.nil (Nrm.seq ?_)
     obtain ⟨⟨t49_1, t49_2, t49_3⟩, h49, hE_4⟩ := bind_some hE_4
     refine Tri.reg (l := [0, 1, 2, 3]) rfl ?_
     refine F.qn rfl (r_move rfl) ?_
     refine F.efn rfl (d_callM (xs := _) (cs := [R.box pa0 114 [va0_0, .int .i64 t46_2, .int .u64 t46_3]]) (rest := [R.box b5_1 48 [.int .i64 t10_1, .int .i64 t46_1, .int .i64 0, .int .i64 0], R.sl S9_1 v9_1 (([1, 1, 1, 1, 2, 3, 4, 5] : List (Int)) : List (Int)), R.box b4_1 48 [.int .i64 0, .int .i64 0, .int .i64 0, .int .i64 0], R.box b3_1 44 [.int .i64 a1_0, va1_1, va1_2, va1_3, .int .i64 a1_4]]) [0] [1, 2, 3, 4] rfl ok201 rfl rfl rfl rfl (fun w hw => spec_l1Cur_colours.ok h49 w (hr_a0_0.down hw) (Sep.sub hw))) ?_
     rintro _ _ ⟨_, ⟨rfl, rfl⟩, rfl⟩
     refine F.qn rfl (r_fieldAddr tf48_2 rfl) ?_
     refine F.ef0 rfl rfl (wanted_none rfl) (d_storeG1 (i := 1) (cs2 := [.int .i64 t49_1]) ti3 rfl rfl rfl rfl rfl (Nat.le_of_ble_eq_true rfl) (lf_cons rfl lf_nil)) ?_
     rintro _ _ ⟨rfl, rfl⟩
     refine F.nil ?_
     cases hE_4
     refine Nrm.only [0, 4, 5] rfl ?_
     refine Nrm.pick [0, 1, 3] rfl rfl ?_
     exact hj_4 _ _ ⟨rfl, rfl⟩
    ·replace hE_4 := if_ff g_3 hE_4
     refine Tri.seq (Tri.reg (l := [0, 1]) rfl ?_)
     refine F.qn rfl (r_eql rfl rfl) (F.qn rfl (r_assign rfl) (F.nil (Nrm.seq ?_)))
     obtain ⟨⟨ypa0_1rr, ypa0_2rr, yb5_1_1r, yb5_1_2, yb5_1_3⟩, hE_5, hE_4⟩ := bind_some hE_4
     refine Tri.cut (fun e' C' => e' = [(0, .pointer (some ⟨pa0, 0, none⟩)), (4, .pointer (some ⟨b4_1, 0, none⟩)), (5, .pointer (some ⟨b5_1, 0, none⟩))] ∧ C' = Sep w (footM [R.box pa0 114 [va0_0, .int .i64 a0_1, .int .u64 a0_2]]) [R.box pa0 114 [va0_0, .int .i64 ypa0_1rr, .int .u64 ypa0_2rr], R.box b5_1 48 [.int .i64 t10_1, .int .i64 yb5_1_1r, .int .i64 yb5_1_2, .int .i64 yb5_1_3], R.box b4_1 48 [.int .i64 0, .int .i64 0, .int .i64 0, .int .i64 0]]) ?_ (fun hj_5 => ?_)
     ·rintro _ _ ⟨rfl, rfl⟩
      cases hE_4
      refine Nrm.only [0, 4, 5] rfl ?_
      refine Nrm.pick [0, 1, 2] rfl rfl ?_
      exact hj_4 _ _ ⟨rfl, rfl⟩
     ·refine Tri.cond (b := t10_1 == 4) rfl (fun g_4 => ?_) (fun g_4 => ?_)
      ·replace hE_5 := if_tt g_4 hE_5
       refine Tri.seq ?_
       obtain ⟨⟨t55_1, t55_2, t55_3⟩, h55, hE_5⟩ := bind_some hE_5
       refine Tri.reg (l := [0, 1, 2, 3, 4]) rfl ?_
       refine F.qn rfl (r_move rfl) (F.qn rfl (r_move rfl) ?_)
       refine F.efn rfl (d_callM (xs := _) (cs := [R.box pa0 114 [va0_0, .int .i64 t10_2, .int .u64 t10_3]]) (rest := [R.box b5_1 48 [.int .i64 t10_1, .int .i64 0, .int .i64 0, .int .i64 0], R.sl S9_1 v9_1 (([1, 1, 1, 1, 2, 3, 4, 5] : List (Int)) : List (Int)), R.box b4_1 48 [.int .i64 0, .int .i64 0, .int .i64 0, .int .i64 0], R.box b3_1 44 [.int .i64 a1_0, va1_1, va1_2, va1_3, .int .i64 a1_4]]) [1] [0, 2, 3, 4] rfl ok115 rfl rfl rfl rfl (fun w hw => spec_l1Cur_pick.ok h55 w (hr_a0_0.down hw) (Sep.sub hw))) ?_
       rintro _ _ ⟨_, ⟨rfl, rfl⟩, rfl⟩
       refine F.qn rfl (r_fieldAddr tf48_1 rfl) ?_
       refine F.ef0 rfl rfl (wanted_none rfl) (d_storeG1 (i := 1) (cs2 := [.int .i64 t55_1]) ti3 rfl rfl rfl rfl rfl (Nat.le_of_ble_eq_true rfl) (lf_cons rfl lf_nil)) ?_
       rintro _ _ ⟨rfl, rfl⟩
       refine F.nil (Nrm.seq (Tri.seq ?_))
       obtain ⟨⟨t59_1, t59_2, t59_3⟩, h59, hE_5⟩ := bind_some hE_5
       refine Tri.reg (l := [0, 1, 2, 3, 4]) rfl ?_
       refine F.qn rfl (r_move rfl) (F.qn rfl (r_move rfl) ?_)
       refine F.efn rfl (d_callM (xs := _) (cs := [R.box pa0 114 [va0_0, .int .i64 t55_2, .int .u64 t55_3]]) (rest := [R.box b5_1 48 [.int .i64 t10_1, .int .i64 t55_1, .int .i64 0, .int .i64 0], R.sl S9_1 v9_1 (([1, 1, 1, 1, 2, 3, 4, 5] : List (Int)) : List (Int)), R.box b4_1 48 [.int .i64 0, .int .i64 0, .int .i64 0, .int .i64 0], R.box b3_1 44 [.int .i64 a1_0, va1_1, va1_2, va1_3, .int .i64 a1_4]]) [0] [1, 2, 3, 4] rfl ok115 rfl rfl rfl rfl (fun w hw => spec_l1Cur_pick.ok h59 w (hr_a0_0.down hw) (Sep.sub hw))) ?_
       rintro _ _ ⟨_, ⟨rfl, rfl⟩, rfl⟩
       refine F.qn rfl (r_fieldAddr tf48_2 rfl) ?_
       refine F.ef0 rfl rfl (wanted_none rfl) (d_storeG1 (i := 1) (cs2 := [.int .i64 t59_1]) ti3 rfl rfl rfl rfl rfl (Nat.le_of_ble_eq_true rfl) (lf_cons rfl lf_nil)) ?_
       rintro _ _ ⟨rfl, rfl⟩
       refine F.nil (Nrm.seq ?_)
       obtain ⟨⟨t62_1, t62_2, t62_3⟩, h62, hE_5⟩ := bind_some hE_5
       refine Tri.reg (l := [0, 1, 2, 3]) rfl ?_
       refine F.qn rfl (r_move rfl) ?_
       refine F.efn rfl (d_callM (xs := _) (cs := [R.box pa0 114 [va0_0, .int .i64 t59_2, .int .u64 t59_3]]) (rest := [R.box b5_1 48 [.int .i64 t10_1, .int .i64 t55_1, .int .i64 t59_1, .int .i64 0], R.sl S9_1 v9_1 (([1, 1, 1, 1, 2, 3, 4, 5] : List (Int)) : List (Int)), R.box b4_1 48 [.int .i64 0, .int .i64 0, .int .i64 0, .int .i64 0], R.box b3_1 44 [.int .i64 a1_0, va1_1, va1_2, va1_3, .int .i64 a1_4]]) [0] [1, 2, 3, 4] rfl ok202 rfl rfl rfl rfl (fun w hw => spec_l1Cur_few.ok h62 w (hr_a0_0.down hw) (Sep.sub hw))) ?_
       rintro _ _ ⟨_, ⟨rfl, rfl⟩, rfl⟩
       refine F.qn rfl (r_fieldAddr tf48_3 rfl) ?_
       refine F.ef0 rfl rfl (wanted_none rfl) (d_storeG1 (i := 1) (cs2 := [.int .i64 t62_1]) ti3 rfl rfl rfl rfl rfl (Nat.le_of_ble_eq_true rfl) (lf_cons rfl lf_nil)) ?_
       rintro _ _ ⟨rfl, rfl⟩
       refine F.nil ?_
       cases hE_5
       refine Nrm.only [0, 4, 5] rfl ?_
       refine Nrm.pick [0, 1, 3] rfl rfl ?_
       exact hj_5 _ _ ⟨rfl, rfl⟩
      ·replace hE_5 := if_ff g_4 hE_5
       refine Tri.seq (Tri.reg (l := [0, 1]) rfl ?_)
       refine F.qn rfl (r_eql rfl rfl) (F.qn rfl (r_assign rfl) (F.nil (Nrm.seq ?_)))
       obtain ⟨⟨ypa0_1rr, ypa0_2rr, yb5_1_1r⟩, hE_6, hE_5⟩ := bind_some hE_5
       refine Tri.cut (fun e' C' => e' = [(0, .pointer (some ⟨pa0, 0, none⟩)), (4, .pointer (some ⟨b4_1, 0, none⟩)), (5, .pointer (some ⟨b5_1, 0, none⟩))] ∧ C' = Sep w (footM [R.box pa0 114 [va0_0, .int .i64 a0_1, .int .u64 a0_2]]) [R.box pa0 114 [va0_0, .int .i64 ypa0_1rr, .int .u64 ypa0_2rr], R.box b5_1 48 [.int .i64 t10_1, .int .i64 yb5_1_1r, .int .i64 0, .int .i64 0], R.box b4_1 48 [.int .i64 0, .int .i64 0, .int .i64 0, .int .i64 0]]) ?_ (fun hj_6 => ?_)
       ·rintro _ _ ⟨rfl, rfl⟩
        cases hE_5
        refine Nrm.only [0, 4, 5] rfl ?_
        refine Nrm.pick [0, 1, 2] rfl rfl ?_
        exact hj_5 _ _ ⟨rfl, rfl⟩
       ·refine Tri.cond (b := t10_1 == 5) rfl (fun g_5 => ?_) (fun g_5 => ?_)
        ·replace hE_6 := if_tt g_5 hE_6
         obtain ⟨t71, h71, hE_6⟩ := bind_some hE_6
         obtain ⟨t72, h72, hE_6⟩ := bind_some hE_6
         obtain ⟨⟨t73_1, t73_2, t73_3⟩, h73, hE_6⟩ := bind_some hE_6
         refine Tri.reg (l := [0, 1, 2, 3, 4, 5, 6, 7, 8, 9]) rfl ?_
         refine F.qn rfl (r_move rfl) (F.qn rfl (r_fieldAddr tf44_0 rfl) (F.qn rfl (r_fieldAddr tf27_1 rfl) (F.qn rfl (r_load ta24 rfl (fun w hw => cell_2 (box_cells (i := 4) rfl w hw) rfl)) (F.qn rfl (r_len Tryz.underlying24 rfl hl_va1_1) ?_))))
         refine F.qcn rfl (q_callF (xs := _) rfl ok199 rfl rfl (fun w hw => spec_l1Least.ok h71 w )) ?_
         refine F.qcn rfl (q_callF (xs := _) rfl ok198 rfl rfl (fun w hw => spec_l1Most.ok h72 w )) ?_
         refine F.efn rfl (d_callM (xs := _) (cs := [R.box pa0 114 [va0_0, .int .i64 t10_2, .int .u64 t10_3]]) (rest := [R.box b5_1 48 [.int .i64 t10_1, .int .i64 0, .int .i64 0, .int .i64 0], R.sl S9_1 v9_1 (([1, 1, 1, 1, 2, 3, 4, 5] : List (Int)) : List (Int)), R.box b4_1 48 [.int .i64 0, .int .i64 0, .int .i64 0, .int .i64 0], R.box b3_1 44 [.int .i64 a1_0, va1_1, va1_2, va1_3, .int .i64 a1_4]]) [1] [0, 2, 3, 4] rfl ok115 rfl rfl rfl rfl (fun w hw => spec_l1Cur_pick.ok h73 w (hr_a0_0.down hw) (Sep.sub hw))) ?_
         rintro _ _ ⟨_, ⟨rfl, rfl⟩, rfl⟩
         refine F.qn rfl (r_fieldAddr tf48_1 rfl) ?_
         refine F.ef0 rfl rfl (wanted_none rfl) (d_storeG1 (i := 1) (cs2 := [.int .i64 t73_1]) ti3 rfl rfl rfl rfl rfl (Nat.le_of_ble_eq_true rfl) (lf_cons rfl lf_nil)) ?_
         rintro _ _ ⟨rfl, rfl⟩
         refine F.nil ?_
         cases hE_6
         refine Nrm.only [0, 4, 5] rfl ?_
         refine Nrm.pick [0, 1, 3] rfl rfl ?_
         exact hj_6 _ _ ⟨rfl, rfl⟩
        ·replace hE_6 := if_ff g_5 hE_6
         refine Tri.skip ?_
         cases hE_6
         refine Nrm.only [0, 4, 5] rfl ?_
         refine Nrm.pick [1, 0, 3] rfl rfl ?_
         exact hj_6 _ _ ⟨rfl, rfl⟩


def spec_l2Node.f (k : Nat) (a0_0 : Int) (a0_1 : List (Int × Int × Int)) (a0_2 : List Int) (a1 : Int) : Option (Bool) := ((spec_l2Maze.f k a0_0 a0_1 a0_2).bind fun t6 => (if t6 = true then (spec_l1In.f k a1 0 (w64 (a0_0 - 1))).bind fun t12 => some t12 else some false)).bind fun y4 => some y4

theorem spec_l2Node.ok {k : Nat}  {a0_0 : Int} {a0_1 : List (Int × Int × Int)} {a0_2 : List Int} {a1 : Int} {r0 : Bool} (h : spec_l2Node.f k a0_0 a0_1 a0_2 a1 = some r0) (w : World) {va0_1 : Value} {va0_2 : Value} (hr_a0_1 : Rd w va0_1 a0_1) (hr_a0_2 : Rd w va0_2 a0_2) :
  Calls Tryz.prog 266 ([.agg ([.int .i64 a0_0, va0_1, va0_2].toArray), .int .i64 a1] : List Value).toArray w (fun e w' => e = .returned (.bool r0) ∧ Ext w w') := by
 unfold spec_l2Node.f at h
 have hl_va0_1 := hr_a0_1.len
 have hl_va0_2 := hr_a0_2.len
 refine Calls.of_tri (N := 14) Tryz.func266 rfl rfl rfl (Sep.nil (M := noM)) ?_
 refine Tri.seq (Tri.reg (l := [0, 1]) rfl ?_)
 refine F.mn rfl (m_boxG rfl rfl) ?_
 rintro _ _ ⟨b2_1, rfl, rfl⟩
 refine F.qn rfl (r_assign rfl) (F.nil (Nrm.seq (Tri.seq ?_)))
 obtain ⟨y4, hE_1, h⟩ := bind_some h
 refine Tri.cut (fun e' C' => e' = [(4, .bool y4)] ∧ C' = Sep w noM []) ?_ (fun hj_1 => ?_)
 ·rintro _ _ ⟨rfl, rfl⟩
  refine Nrm.seq (Tri.ret ?_)
  cases h
  exact Rtn.body (.tmp rfl .nil) (fun w hw => ⟨rfl, hw.ext⟩)
 ·obtain ⟨t6, h6, hE_1⟩ := bind_some hE_1
  rcases Bool.eq_false_or_eq_true (t6) with g7 | g7
  ·replace hE_1 := if_tt g7 hE_1
   obtain ⟨t12, h12, hE_1⟩ := bind_some hE_1
   refine Tri.reg (l := [0, 1, 2, 3, 4, 5, 6, 7, 8, 9]) rfl ?_
   refine F.qn rfl (r_loadA ta27 ti27 rfl rfl (fun w hw => (box_cells (i := 0) rfl w hw))) ?_
   refine F.qcn rfl (q_callF (xs := _) rfl ok108 rfl rfl (fun w hw => spec_l2Maze.ok h6 w ((fun _ hw => hr_a0_1.sep hw) w hw) ((fun _ hw => hr_a0_2.sep hw) w hw))) ?_
   refine F.qn rfl (r_move rfl) (F.qg rfl g7 (r_move rfl) (F.qg rfl g7 (r_fieldAddr tf27_0 rfl) (F.qg rfl g7 (r_load ta3 rfl (fun w hw => cell_1 (box_cells (i := 0) rfl w hw) rfl)) (F.qg rfl g7 (r_sub rfl rfl) ?_))))
   refine F.qc rfl rfl rfl (wg rfl rfl rfl g7) (q_callF (xs := _) rfl ok148 rfl rfl (fun w hw => spec_l1In.ok h12 w )) ?_
   refine F.qn rfl (r_pick rfl rfl g7) (F.qn rfl (r_assign rfl) (F.nil ?_))
   cases hE_1
   refine Nrm.only [4] rfl ?_
   refine Nrm.pick [] rfl rfl ?_
   exact hj_1 _ _ ⟨rfl, rfl⟩
  ·replace hE_1 := if_ff g7 hE_1
   refine Tri.reg (l := [0, 1, 2, 3, 4, 5, 6, 7, 8, 9]) rfl ?_
   refine F.qn rfl (r_loadA ta27 ti27 rfl rfl (fun w hw => (box_cells (i := 0) rfl w hw))) ?_
   refine F.qcn rfl (q_callF (xs := _) rfl ok108 rfl rfl (fun w hw => spec_l2Maze.ok h6 w ((fun _ hw => hr_a0_1.sep hw) w hw) ((fun _ hw => hr_a0_2.sep hw) w hw))) ?_
   refine F.qn rfl (r_move rfl) ?_
   iterate 5 refine F.skf rfl g7 ?_
   refine F.qn rfl (r_pickf rfl rfl g7) (F.qn rfl (r_assign rfl) (F.nil ?_))
   cases hE_1
   refine Nrm.only [4] rfl ?_
   refine Nrm.pick [] rfl rfl ?_
   exact hj_1 _ _ ⟨rfl, rfl⟩


def spec_l2Kept.f (k : Nat) (a0_0 : Int) (a0_1 : List (Int × Int × Int)) (a0_2 : List Int) : Option (Int × (List (Int × Int × Int)) × (List Int) × Bool) := (spec_l2Maze.f k a0_0 a0_1 a0_2).bind fun t5 => (if (!t5) = true then some (0, [], [], false) else some (a0_0, a0_1, a0_2, true))

theorem spec_l2Kept.ok {k : Nat}  {a0_0 : Int} {a0_1 : List (Int × Int × Int)} {a0_2 : List Int} {r0 : Int} {r1 : List (Int × Int × Int)} {r2 : List Int} {r3 : Bool} (h : spec_l2Kept.f k a0_0 a0_1 a0_2 = some (r0, r1, r2, r3)) (w : World) {va0_1 : Value} {Sa0_1 : Nat → Prop} (hl_va0_1 : SlLen va0_1 a0_1.length) {va0_2 : Value} {Sa0_2 : Nat → Prop} (hl_va0_2 : SlLen va0_2 a0_2.length) (hw0 : Sep w (footM [R.sl Sa0_1 va0_1 a0_1, R.sl Sa0_2 va0_2 a0_2]) [R.sl Sa0_1 va0_1 a0_1, R.sl Sa0_2 va0_2 a0_2] w) :
  Calls Tryz.prog 267 ([.agg ([.int .i64 a0_0, va0_1, va0_2].toArray)] : List Value).toArray w (PostM (footM [R.sl Sa0_1 va0_1 a0_1, R.sl Sa0_2 va0_2 a0_2]) (fun u ns => ∃ (ur1 : Value) (Sr1 : Nat → Prop) (ur2 : Value) (Sr2 : Nat → Prop), u = .tuple #[.agg [.int .i64 r0, ur1, ur2].toArray, .bool r3] ∧ SlLen ur1 r1.length ∧ SlLen ur2 r2.length ∧ ns = [R.sl Sr1 ur1 r1, R.sl Sr2 ur2 r2]) w) := by
 unfold spec_l2Kept.f at h
 refine Calls.of_tri (N := 9) Tryz.func267 rfl rfl rfl hw0 ?_
 refine Tri.seq (Tri.reg (l := [0, 1, 2]) rfl ?_)
 refine F.mn rfl (m_boxG rfl rfl) ?_
 rintro _ _ ⟨b1_1, rfl, rfl⟩
 refine F.mn rfl (m_alloc ti27) ?_
 rintro _ _ ⟨b2_1, rfl, rfl⟩
 refine F.qn rfl (r_assign rfl) (F.nil (Nrm.seq (Tri.seq (Tri.seq ?_))))
 obtain ⟨t5, h5, h⟩ := bind_some h
 refine Tri.reg (l := [0, 1, 2]) rfl ?_
 refine F.qn rfl (r_loadA ta27 ti27 rfl rfl (fun w hw => (box_cells (i := 1) rfl w hw))) ?_
 refine F.qcn rfl (q_callF (xs := _) rfl ok108 rfl rfl (fun w hw => spec_l2Maze.ok h5 w ((rd_sl (i := 2) rfl) w hw) ((rd_sl (i := 3) rfl) w hw))) ?_
 refine F.qn rfl (r_not rfl) (F.nil (Nrm.seq (Tri.cond (b := !t5) rfl (fun g_1 => ?_) (fun g_1 => ?_))))
 ·replace h := if_tt g_1 h
  refine Tri.seq (Tri.reg (l := [0, 1, 2]) rfl ?_)
  refine F.qn rfl (r_build (pl := [(0, 1), (1, 1), (2, 1)]) (qs := []) (cs := [.int .i64 0, .slice none 0 0, .slice none 0 0]) (by kernel_rfl) ti27 rfl .nil rfl rfl) ?_
  refine F.ef0 rfl rfl (wanted_none rfl) (d_storeG0 (i := 0) (cs2 := [.int .i64 0, .slice none 0 0, .slice none 0 0]) ti27 rfl rfl rfl rfl rfl (Nat.le_of_ble_eq_true rfl) (lf_cons rfl (lf_cons rfl (lf_cons rfl lf_nil)))) ?_
  rintro _ _ ⟨rfl, rfl⟩
  refine F.qn rfl (r_assign rfl) (F.nil (Nrm.seq (Tri.ret ?_)))
  refine Rtn.then ?_
  cases h
  exact Rtn.body (.cell rfl ta27 ti27 rfl (fun _ hw => box_cells (i := 0) rfl _ hw) (.tmp rfl .nil)) (fun w hw => ⟨_, _, rfl, ⟨.slice none 0 0, fun _ => False, .slice none 0 0, fun _ => False, rfl, len_nil, len_nil, rfl⟩, Sep.pick (is := [0, 1]) rfl rfl hw.pushNil.pushNil⟩)
 ·replace h := if_ff g_1 h
  refine Tri.skip (Nrm.seq (Tri.seq (Tri.reg (l := [0, 1, 2]) rfl ?_)))
  refine F.qn rfl (r_loadA ta27 ti27 rfl rfl (fun w hw => (box_cells (i := 1) rfl w hw))) ?_
  refine F.ef0 rfl rfl (wanted_none rfl) (d_storeG0 (i := 0) (cs2 := [.int .i64 a0_0, va0_1, va0_2]) ti27 rfl rfl rfl rfl rfl (Nat.le_of_ble_eq_true rfl) (lf_cons rfl (lf_cons (sl_leaf hl_va0_1) (lf_cons (sl_leaf hl_va0_2) lf_nil)))) ?_
  rintro _ _ ⟨rfl, rfl⟩
  refine F.qn rfl (r_assign rfl) (F.nil (Nrm.seq (Tri.ret ?_)))
  cases h
  exact Rtn.body (.cell rfl ta27 ti27 rfl (fun _ hw => box_cells (i := 0) rfl _ hw) (.tmp rfl .nil)) (fun w hw => ⟨_, _, rfl, ⟨va0_1, Sa0_1, va0_2, Sa0_2, rfl, hl_va0_1, hl_va0_2, rfl⟩, Sep.pick (is := [2, 3]) rfl rfl hw⟩)


def spec_AddDoor.f (k : Nat) (a0_0 : Int) (a0_1 : List (Int × Int × Int)) (a0_2 : List Int) (a1 : Int) (a2 : Int) (a3 : Int) : Option (Int × (List (Int × Int × Int)) × (List Int) × Bool) := ((spec_l2Node.f k a0_0 a0_1 a0_2 a1).bind fun t13 => (if (!t13) = true then some true else (spec_l2Node.f k a0_0 a0_1 a0_2 a2).bind fun t18 => (if (!t18) = true then some true else (if (a1 == a2) = true then some true else (spec_l2Set.f k a3).bind fun t28 => some (!t28))))).bind fun y30 => (if y30 = true then some (0, [], [], false) else (spec_l2Own.f k a0_0 a0_1 a0_2).bind fun (t33_1, t33_2, t33_3) => (spec_l2Put.f k t33_2 a1 a2 a3).bind fun t39 => (if ((t39.length : Int) == (a0_1.length : Int)) = true then some (0, [], [], false) else (spec_l2Kept.f k t33_1 t39 t33_3).bind fun (t50_1, t50_2, t50_3, t50_4) => some (t50_1, t50_2, t50_3, t50_4)))

theorem spec_AddDoor.ok {k : Nat}  {a0_0 : Int} {a0_1 : List (Int × Int × Int)} {a0_2 : List Int} {a1 : Int} {a2 : Int} {a3 : Int} {r0 : Int} {r1 : List (Int × Int × Int)} {r2 : List Int} {r3 : Bool} (h : spec_AddDoor.f k a0_0 a0_1 a0_2 a1 a2 a3 = some (r0, r1, r2, r3)) (w : World) {va0_1 : Value} {va0_2 : Value} (hr_a0_1 : Rd w va0_1 a0_1) (hr_a0_2 : Rd w va0_2 a0_2) :
  Calls Tryz.prog 242 ([.agg ([.int .i64 a0_0, va0_1, va0_2].toArray), .int .i64 a1, .int .i64 a2, .int .i64 a3] : List Value).toArray w (Post (fun u ns => ∃ (ur1 : Value) (Sr1 : Nat → Prop) (ur2 : Value) (Sr2 : Nat → Prop), u = .tuple #[.agg [.int .i64 r0, ur1, ur2].toArray, .bool r3] ∧ SlLen ur1 r1.length ∧ SlLen ur2 r2.length ∧ ns = [R.sl Sr1 ur1 r1, R.sl Sr2 ur2 r2]) w) := by
 unfold spec_AddDoor.f at h
 have hl_va0_1 := hr_a0_1.len
 have hl_va0_2 := hr_a0_2.len
 refine Calls.of_tri (N := 53) Tryz.func242 rfl rfl rfl (Sep.nil (M := noM)) ?_
 refine Tri.seq (Tri.reg (l := [0, 1, 2]) rfl ?_)
 refine F.mn rfl (m_boxG rfl rfl) ?_
 rintro _ _ ⟨b4_1, rfl, rfl⟩
 refine F.mn rfl (m_alloc ti27) ?_
 rintro _ _ ⟨b8_1, rfl, rfl⟩
 refine F.qn rfl (r_assign rfl) (F.nil (Nrm.seq (Tri.seq (Tri.seq ?_))))
 obtain ⟨y30, hE_1, h⟩ := bind_some h
 refine Tri.cut (fun e' C' => e' = [(1, .int .i64 a1), (2, .int .i64 a2), (3, .int .i64 a3), (4, .pointer (some ⟨b4_1, 0, none⟩)), (8, .pointer (some ⟨b8_1, 0, none⟩)), (30, .bool y30)] ∧ C' = Sep w noM [R.box b8_1 27 [.int .i64 0, .slice none 0 0, .slice none 0 0], R.box b4_1 27 [.int .i64 a0_0, va0_1, va0_2]]) ?_ (fun hj_1 => ?_)
 ·rintro _ _ ⟨rfl, rfl⟩
  refine Nrm.seq (Tri.cond (b := y30) rfl (fun g_1 => ?_) (fun g_1 => ?_))
  ·replace h := if_tt g_1 h
   refine Tri.seq (Tri.reg (l := [0, 1, 2]) rfl ?_)
   refine F.qn rfl (r_build (pl := [(0, 1), (1, 1), (2, 1)]) (qs := []) (cs := [.int .i64 0, .slice none 0 0, .slice none 0 0]) (by kernel_rfl) ti27 rfl .nil rfl rfl) ?_
   refine F.ef0 rfl rfl (wanted_none rfl) (d_storeG0 (i := 0) (cs2 := [.int .i64 0, .slice none 0 0, .slice none 0 0]) ti27 rfl rfl rfl rfl rfl (Nat.le_of_ble_eq_true rfl) (lf_cons rfl (lf_cons rfl (lf_cons rfl lf_nil)))) ?_
   rintro _ _ ⟨rfl, rfl⟩
   refine F.qn rfl (r_assign rfl) (F.nil (Nrm.seq (Tri.ret ?_)))
   refine Rtn.then ?_
   cases h
   exact Rtn.body (.cell rfl ta27 ti27 rfl (fun _ hw => box_cells (i := 0) rfl _ hw) (.tmp rfl .nil)) (fun w hw => ⟨_, _, rfl, ⟨.slice none 0 0, fun _ => False, .slice none 0 0, fun _ => False, rfl, len_nil, len_nil, rfl⟩, Sep.pick (is := [0, 1]) rfl rfl hw.pushNil.pushNil⟩)
  ·replace h := if_ff g_1 h
   refine Tri.skip (Nrm.seq (Tri.seq ?_))
   obtain ⟨⟨t33_1, t33_2, t33_3⟩, h33, h⟩ := bind_some h
   refine Tri.reg (l := [0, 1, 2, 3]) rfl ?_
   refine F.qn rfl (r_loadA ta27 ti27 rfl rfl (fun w hw => (box_cells (i := 1) rfl w hw))) ?_
   refine F.mn rfl (m_callF (xs := _) rfl ok141 rfl rfl (fun w hw => spec_l2Own.ok h33 w ((fun _ hw => hr_a0_1.sep hw) w hw) ((fun _ hw => hr_a0_2.sep hw) w hw))) ?_
   rintro _ _ ⟨_, ⟨v33_1, S33_1, v33_2, S33_2, rfl, hl_v33_1, hl_v33_2, rfl⟩, rfl⟩
   refine F.mn rfl (m_alloc ti27) ?_
   rintro _ _ ⟨b10_1, rfl, rfl⟩
   refine F.ef0 rfl rfl (wanted_none rfl) (d_storeG0 (i := 0) (cs2 := [.int .i64 t33_1, v33_1, v33_2]) ti27 rfl rfl rfl rfl rfl (Nat.le_of_ble_eq_true rfl) (lf_cons rfl (lf_cons (sl_leaf hl_v33_1) (lf_cons (sl_leaf hl_v33_2) lf_nil)))) ?_
   rintro _ _ ⟨rfl, rfl⟩
   refine F.nil (Nrm.seq (Tri.seq ?_))
   obtain ⟨t39, h39, h⟩ := bind_some h
   refine Tri.reg (l := [0, 1, 2, 3, 4, 5, 6, 7]) rfl ?_
   refine F.qn rfl (r_fieldAddr tf27_1 rfl) (F.qn rfl (r_load ta24 rfl (fun w hw => cell_1 (box_cells (i := 0) rfl w hw) rfl)) ?_)
   iterate 3 refine F.qn rfl (r_move rfl) ?_
   refine F.efn rfl (d_callM (xs := _) (cs := [R.sl S33_1 v33_1 (t33_2 : List (Int × Int × Int))]) (rest := [R.box b10_1 27 [.int .i64 t33_1, v33_1, v33_2], R.sl S33_2 v33_2 (t33_3 : List (Int)), R.box b8_1 27 [.int .i64 0, .slice none 0 0, .slice none 0 0], R.box b4_1 27 [.int .i64 a0_0, va0_1, va0_2]]) [1] [0, 2, 3, 4] rfl ok238 rfl rfl rfl rfl (fun w hw => spec_l2Put.ok h39 w hl_v33_1 (Sep.sub hw))) ?_
   rintro v39_1 _ ⟨_, ⟨S39_1, hl_v39_1, rfl⟩, rfl⟩
   refine F.qn rfl (r_fieldAddr tf27_1 rfl) ?_
   refine F.ef0 rfl rfl (wanted_none rfl) (d_storeG1 (i := 1) (cs2 := [v39_1]) ti24 rfl rfl rfl (sl_cells hl_v39_1) rfl (Nat.le_of_ble_eq_true rfl) (lf_cons (sl_leaf hl_v39_1) lf_nil)) ?_
   rintro _ _ ⟨rfl, rfl⟩
   refine F.nil (Nrm.seq (Tri.seq (Tri.seq (Tri.reg (l := [0, 1, 2, 3, 4, 5, 6]) rfl ?_))))
   refine F.qn rfl (r_fieldAddr tf27_1 rfl) ?_
   refine F.qn rfl (r_load ta24 rfl (fun w hw => cell_1 (box_cells (i := 1) rfl w hw) rfl)) (F.qn rfl (r_len Tryz.underlying24 rfl hl_v39_1) (F.qn rfl (r_fieldAddr tf27_1 rfl) (F.qn rfl (r_load ta24 rfl (fun w hw => cell_1 (box_cells (i := 4) rfl w hw) rfl)) (F.qn rfl (r_len Tryz.underlying24 rfl hl_va0_1) (F.qn rfl (r_eql rfl rfl) (F.nil (Nrm.seq (Tri.cond (b := (t39.length : Int) == (a0_1.length : Int)) rfl (fun g_2 => ?_) (fun g_2 => ?_)))))))))
   ·replace h := if_tt g_2 h
    refine Tri.seq (Tri.reg (l := [0, 1, 2]) rfl ?_)
    refine F.qn rfl (r_build (pl := [(0, 1), (1, 1), (2, 1)]) (qs := []) (cs := [.int .i64 0, .slice none 0 0, .slice none 0 0]) (by kernel_rfl) ti27 rfl .nil rfl rfl) ?_
    refine F.ef0 rfl rfl (wanted_none rfl) (d_storeG0 (i := 3) (cs2 := [.int .i64 0, .slice none 0 0, .slice none 0 0]) ti27 rfl rfl rfl rfl rfl (Nat.le_of_ble_eq_true rfl) (lf_cons rfl (lf_cons rfl (lf_cons rfl lf_nil)))) ?_
    rintro _ _ ⟨rfl, rfl⟩
    refine F.qn rfl (r_assign rfl) (F.nil (Nrm.seq (Tri.ret ?_)))
    refine Rtn.then ?_
    cases h
    exact Rtn.body (.cell rfl ta27 ti27 rfl (fun _ hw => box_cells (i := 3) rfl _ hw) (.tmp rfl .nil)) (fun w hw => ⟨_, _, rfl, ⟨.slice none 0 0, fun _ => False, .slice none 0 0, fun _ => False, rfl, len_nil, len_nil, rfl⟩, Sep.pick (is := [0, 1]) rfl rfl hw.pushNil.pushNil⟩)
   ·replace h := if_ff g_2 h
    refine Tri.skip (Nrm.seq (Tri.seq ?_))
    obtain ⟨⟨t50_1, t50_2, t50_3, t50_4⟩, h50, h⟩ := bind_some h
    refine Tri.reg (l := [0, 1, 2, 3, 4, 5]) rfl ?_
    refine F.qn rfl (r_loadA ta27 ti27 rfl rfl (fun w hw => (box_cells (i := 1) rfl w hw))) ?_
    refine F.efn rfl (d_callM (xs := _) (cs := [R.sl S39_1 v39_1 (t39 : List (Int × Int × Int)), R.sl S33_2 v33_2 (t33_3 : List (Int))]) (rest := [R.box b10_1 27 [.int .i64 t33_1, v39_1, v33_2], R.box b8_1 27 [.int .i64 0, .slice none 0 0, .slice none 0 0], R.box b4_1 27 [.int .i64 a0_0, va0_1, va0_2]]) [0, 2] [1, 3, 4] rfl ok267 rfl rfl rfl rfl (fun w hw => spec_l2Kept.ok h50 w hl_v39_1 hl_v33_2 (Sep.sub hw))) ?_
    rintro _ _ ⟨_, ⟨v50_1, S50_1, v50_2, S50_2, rfl, hl_v50_1, hl_v50_2, rfl⟩, rfl⟩
    refine F.qn rfl (r_extract rfl rfl) (F.qn rfl (r_extract rfl rfl) ?_)
    refine F.ef0 rfl rfl (wanted_none rfl) (d_storeG0 (i := 3) (cs2 := [.int .i64 t50_1, v50_1, v50_2]) ti27 rfl rfl rfl rfl rfl (Nat.le_of_ble_eq_true rfl) (lf_cons rfl (lf_cons (sl_leaf hl_v50_1) (lf_cons (sl_leaf hl_v50_2) lf_nil)))) ?_
    rintro _ _ ⟨rfl, rfl⟩
    refine F.qn rfl (r_assign rfl) (F.nil (Nrm.seq (Tri.ret ?_)))
    cases h
    exact Rtn.body (.cell rfl ta27 ti27 rfl (fun _ hw => box_cells (i := 3) rfl _ hw) (.tmp rfl .nil)) (fun w hw => ⟨_, _, rfl, ⟨v50_1, S50_1, v50_2, S50_2, rfl, hl_v50_1, hl_v50_2, rfl⟩, Sep.pick (is := [0, 1]) rfl rfl hw⟩)
 ·obtain ⟨t13, h13, hE_1⟩ := bind_some hE_1
  rcases Bool.eq_false_or_eq_true (!t13) with g15 | g15
  ·replace hE_1 := if_tt g15 hE_1
   refine Tri.reg (l := List.range 20) rfl ?_
   refine F.qn rfl (r_loadA ta27 ti27 rfl rfl (fun w hw => (box_cells (i := 1) rfl w hw))) (F.qn rfl (r_move rfl) ?_)
   refine F.qcn rfl (q_callF (xs := _) rfl ok266 rfl rfl (fun w hw => spec_l2Node.ok h13 w ((fun _ hw => hr_a0_1.sep hw) w hw) ((fun _ hw => hr_a0_2.sep hw) w hw))) ?_
   refine F.qn rfl (r_not rfl) (F.qn rfl (r_move rfl) ?_)
   iterate 4 refine F.skf rfl g15 ?_
   refine F.qn rfl (r_pick rfl rfl g15) (F.qn rfl (r_move rfl) ?_)
   iterate 3 refine F.skf rfl rfl ?_
   refine F.qn rfl (r_pick rfl rfl rfl) (F.qn rfl (r_move rfl) ?_)
   iterate 3 refine F.skf rfl rfl ?_
   refine F.qn rfl (r_pick rfl rfl rfl) (F.nil ?_)
   cases hE_1
   refine Nrm.only [1, 2, 3, 4, 8, 30] rfl ?_
   refine Nrm.pick [0, 1] rfl rfl ?_
   exact hj_1 _ _ ⟨rfl, rfl⟩
  ·replace hE_1 := if_ff g15 hE_1
   obtain ⟨t18, h18, hE_1⟩ := bind_some hE_1
   rcases Bool.eq_false_or_eq_true (!t18) with g21 | g21
   ·replace hE_1 := if_tt g21 hE_1
    refine Tri.reg (l := List.range 20) rfl ?_
    refine F.qn rfl (r_loadA ta27 ti27 rfl rfl (fun w hw => (box_cells (i := 1) rfl w hw))) (F.qn rfl (r_move rfl) ?_)
    refine F.qcn rfl (q_callF (xs := _) rfl ok266 rfl rfl (fun w hw => spec_l2Node.ok h13 w ((fun _ hw => hr_a0_1.sep hw) w hw) ((fun _ hw => hr_a0_2.sep hw) w hw))) ?_
    refine F.qn rfl (r_not rfl) (F.qn rfl (r_move rfl) (F.qg rfl g15 (r_loadA ta27 ti27 rfl rfl (fun w hw => (box_cells (i := 1) rfl w hw))) (F.qg rfl g15 (r_move rfl) ?_)))
    refine F.qc rfl rfl rfl (wg rfl rfl rfl g15) (q_callF (xs := _) rfl ok266 rfl rfl (fun w hw => spec_l2Node.ok h18 w ((fun _ hw => hr_a0_1.sep hw) w hw) ((fun _ hw => hr_a0_2.sep hw) w hw))) ?_
    refine F.qg rfl g15 (r_not rfl) (F.qn rfl (r_pickf rfl rfl g15) (F.qn rfl (r_move rfl) ?_))
    iterate 3 refine F.skf rfl g21 ?_
    refine F.qn rfl (r_pick rfl rfl g21) (F.qn rfl (r_move rfl) ?_)
    iterate 3 refine F.skf rfl rfl ?_
    refine F.qn rfl (r_pick rfl rfl rfl) (F.nil ?_)
    cases hE_1
    refine Nrm.only [1, 2, 3, 4, 8, 30] rfl ?_
    refine Nrm.pick [0, 1] rfl rfl ?_
    exact hj_1 _ _ ⟨rfl, rfl⟩
   ·replace hE_1 := if_ff g21 hE_1
    rcases Bool.eq_false_or_eq_true (a1 == a2) with g26 | g26
    ·replace hE_1 := if_tt g26 hE_1
     refine Tri.reg (l := List.range 20) rfl ?_
     refine F.qn rfl (r_loadA ta27 ti27 rfl rfl (fun w hw => (box_cells (i := 1) rfl w hw))) (F.qn rfl (r_move rfl) ?_)
     refine F.qcn rfl (q_callF (xs := _) rfl ok266 rfl rfl (fun w hw => spec_l2Node.ok h13 w ((fun _ hw => hr_a0_1.sep hw) w hw) ((fun _ hw => hr_a0_2.sep hw) w hw))) ?_
     refine F.qn rfl (r_not rfl) (F.qn rfl (r_move rfl) (F.qg rfl g15 (r_loadA ta27 ti27 rfl rfl (fun w hw => (box_cells (i := 1) rfl w hw))) (F.qg rfl g15 (r_move rfl) ?_)))
     refine F.qc rfl rfl rfl (wg rfl rfl rfl g15) (q_callF (xs := _) rfl ok266 rfl rfl (fun w hw => spec_l2Node.ok h18 w ((fun _ hw => hr_a0_1.sep hw) w hw) ((fun _ hw => hr_a0_2.sep hw) w hw))) ?_
     refine F.qg rfl g15 (r_not rfl) (F.qn rfl (r_pickf rfl rfl g15) ?_)
     refine F.qn rfl (r_move rfl) (F.qg rfl g21 (r_move rfl) (F.qg rfl g21 (r_move rfl) (F.qg rfl g21 (r_eql rfl rfl) (F.qn rfl (r_pickf rfl rfl g21) (F.qn rfl (r_move rfl) ?_)))))
     iterate 3 refine F.skf rfl g26 ?_
     refine F.qn rfl (r_pick rfl rfl g26) (F.nil ?_)
     cases hE_1
     refine Nrm.only [1, 2, 3, 4, 8, 30] rfl ?_
     refine Nrm.pick [0, 1] rfl rfl ?_
     exact hj_1 _ _ ⟨rfl, rfl⟩
    ·replace hE_1 := if_ff g26 hE_1
     obtain ⟨t28, h28, hE_1⟩ := bind_some hE_1
     refine Tri.reg (l := List.range 20) rfl ?_
     refine F.qn rfl (r_loadA ta27 ti27 rfl rfl (fun w hw => (box_cells (i := 1) rfl w hw))) (F.qn rfl (r_move rfl) ?_)
     refine F.qcn rfl (q_callF (xs := _) rfl ok266 rfl rfl (fun w hw => spec_l2Node.ok h13 w ((fun _ hw => hr_a0_1.sep hw) w hw) ((fun _ hw => hr_a0_2.sep hw) w hw))) ?_
     refine F.qn rfl (r_not rfl) (F.qn rfl (r_move rfl) (F.qg rfl g15 (r_loadA ta27 ti27 rfl rfl (fun w hw => (box_cells (i := 1) rfl w hw))) (F.qg rfl g15 (r_move rfl) ?_)))
     refine F.qc rfl rfl rfl (wg rfl rfl rfl g15) (q_callF (xs := _) rfl ok266 rfl rfl (fun w hw => spec_l2Node.ok h18 w ((fun _ hw => hr_a0_1.sep hw) w hw) ((fun _ hw => hr_a0_2.sep hw) w hw))) ?_
     refine F.qg rfl g15 (r_not rfl) (F.qn rfl (r_pickf rfl rfl g15) (F.qn rfl (r_move rfl) ?_))
     refine F.qg rfl g21 (r_move rfl) (F.qg rfl g21 (r_move rfl) (F.qg rfl g21 (r_eql rfl rfl) (F.qn rfl (r_pickf rfl rfl g21) (F.qn rfl (r_move rfl) (F.qg rfl g26 (r_move rfl) ?_)))))
     refine F.qc rfl rfl rfl (wg rfl rfl rfl g26) (q_callF (xs := _) rfl ok178 rfl rfl (fun w hw => spec_l2Set.ok h28 w )) ?_
     refine F.qg rfl g26 (r_not rfl) (F.qn rfl (r_pickf rfl rfl g26) (F.nil ?_))
     cases hE_1
     refine Nrm.only [1, 2, 3, 4, 8, 30] rfl ?_
     refine Nrm.pick [0, 1] rfl rfl ?_
     exact hj_1 _ _ ⟨rfl, rfl⟩

end Go.Proofs
