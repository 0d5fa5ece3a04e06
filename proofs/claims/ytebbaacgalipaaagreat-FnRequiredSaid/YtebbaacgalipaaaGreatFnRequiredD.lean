/- A part of the proof of FnRequired: what the functions of the program compute, walked on the model. No condition. -/
import Derived.Test.YtebbaacgalipaaaGreatFnRequiredC
set_option linter.unusedSimpArgs false
/- loop.example/g01158/impl.IsMaze -/
namespace Go.Proofs
open Go Go.Ga
set_option linter.unusedVariables false
set_option maxRecDepth 100000
set_option maxHeartbeats 4000000
def impl_IsMaze.l0 (k : Nat) (a0_0 : Int) (a0_1 : List (Int × Int × Int)) : Nat → Int → Option ((Unit) ⊕ (Bool))
 | 0, _ => none
 | n + 1, x26 => (if (decide (x26 < (a0_1.length : Int))) = true then (rdl a0_1 x26).bind fun t29 => ((if (decide (t29.1 < 0)) = true then some true else (if (decide (t29.1 ≥ t29.2.1)) = true then some true else (if (decide (t29.2.1 ≥ a0_0)) = true then some true else (impl_isSet.f k t29.2.2).bind fun t51 => (if (!t51) = true then some true else (if (decide (x26 > 0)) = true then (rdl a0_1 (w64 (x26 - 1))).bind fun t62 => (impl_compareDoors.f k t62.1 t62.2.1 t62.2.2 t29.1 t29.2.1 t29.2.2).bind fun t65 => some (decide (t65 ≥ 0)) else some false)))))).bind fun y68 => (if y68 = true then some (Sum.inr false) else impl_IsMaze.l0 k a0_0 a0_1 n (w64 (x26 + 1))) else some (Sum.inl ()))

def impl_IsMaze.f (k : Nat) (a0_0 : Int) (a0_1 : List (Int × Int × Int)) (a0_2 : List Int) : Option (Bool) := ((impl_within.f k a0_0 1 12).bind fun t7 => (if (!t7) = true then some true else (if (decide ((a0_1.length : Int) > 30)) = true then some true else some ((a0_2.length : Int) != a0_0)))).bind fun y22 => (if y22 = true then some false else (impl_IsMaze.l0 k a0_0 a0_1 k 0).bind fun s => Lr s some fun _ => (slices_ContainsFunc_int_int.f k a0_2 (fun z0 => impl_IsMaze_1.f k z0)).bind fun t72 => some (!t72))

theorem impl_IsMaze.ok {k : Nat}  {a0_0 : Int} {a0_1 : List (Int × Int × Int)} {a0_2 : List Int} {r0 : Bool} (h : impl_IsMaze.f k a0_0 a0_1 a0_2 = some r0) (w : World) {va0_1 : Value} {va0_2 : Value} (hr_a0_1 : Rd w va0_1 a0_1) (hr_a0_2 : Rd w va0_2 a0_2) :
  Calls Tryz.prog 102 ([.agg ([.int .i64 a0_0, va0_1, va0_2].toArray)] : List Value).toArray w (fun e w' => e = .returned (.bool r0) ∧ Ext w w') := by
 unfold impl_IsMaze.f at h
 have hl_va0_1 := hr_a0_1.len
 have hl_va0_2 := hr_a0_2.len
 refine Calls.of_tri (N := 74) Tryz.func102 rfl rfl rfl (Sep.nil (M := noM)) ?_
 refine Tri.seq (Tri.reg (l := [0, 1]) rfl ?_)
 refine F.mn rfl (m_boxG rfl rfl) ?_
 rintro _ _ ⟨b1_1, rfl, rfl⟩
 refine F.qn rfl (r_assign rfl) (F.nil (Nrm.seq (Tri.seq (Tri.seq ?_))))
 obtain ⟨y22, hE_1, h⟩ := bind_some h
 refine Tri.cut (fun e' C' => e' = [(1, .pointer (some ⟨b1_1, 0, none⟩)), (22, .bool y22)] ∧ C' = Sep w noM [R.box b1_1 27 [.int .i64 a0_0, va0_1, va0_2]]) ?_ (fun hj_1 => ?_)
 ·rintro _ _ ⟨rfl, rfl⟩
  refine Nrm.seq (Tri.cond (b := y22) rfl (fun g_1 => ?_) (fun g_1 => ?_))
  ·replace h := if_tt g_1 h
   refine Tri.seq (Tri.reg (l := [0]) rfl ?_)
   refine F.qn rfl (r_assign rfl) (F.nil (Nrm.seq (Tri.ret ?_)))
   refine Rtn.then ?_
   cases h
   exact Rtn.body (.tmp rfl .nil) (fun w hw => ⟨rfl, hw.ext⟩)
  ·replace h := if_ff g_1 h
   refine Tri.skip (Nrm.seq (Tri.seq (Tri.seq (Tri.reg (l := [0, 1, 2, 3]) rfl ?_))))
   refine F.qn rfl (r_fieldAddr tf27_1 rfl) (F.qn rfl (r_load ta24 rfl (fun w hw => cell_1 (box_cells (i := 0) rfl w hw) rfl)) (F.qn rfl (r_len Tryz.underlying24 rfl hl_va0_1) (F.qn rfl (r_move rfl) (F.nil (Nrm.seq ?_)))))
   obtain ⟨s0, hE_2, h⟩ := bind_some h
   refine Tri.block ?_
   refine Tri.only [1, 24, 25, 26] rfl ?_
   refine Tri.pick [0] rfl rfl ?_
   refine Tri.rounds (fun n e' C' => ∃ (x26' : Int), impl_IsMaze.l0 k a0_0 a0_1 n x26' = some s0 ∧ e' = [(1, .pointer (some ⟨b1_1, 0, none⟩)), (24, va0_1), (25, .int .i64 (a0_1.length : Int)), (26, .int .i64 x26')] ∧ C' = Sep w noM [R.box b1_1 27 [.int .i64 a0_0, va0_1, va0_2]]) k ?_ ?_ ?_
   ·exact ⟨0, hE_2, rfl, rfl⟩
   ·rintro _ _ ⟨_, hE_2, _⟩
    rw [impl_IsMaze.l0.eq_1] at hE_2; cases hE_2
   ·rintro n_1 _ _ ⟨x26, hE_2, rfl, rfl⟩ ih_1
    rw [impl_IsMaze.l0.eq_2] at hE_2
    refine Tri.seq (Tri.reg (l := [0]) rfl ?_)
    refine F.qn rfl (r_lss rfl rfl) (F.nil (Nrm.seq (Tri.seq (Tri.cond (b := decide (x26 < (a0_1.length : Int))) rfl (fun g_2 => ?_) (fun g_2 => ?_)))))
    ·replace hE_2 := if_tt g_2 hE_2
     refine Tri.skip (Nrm.seq (Tri.seq (Tri.block ?_)))
     refine Tri.seq ?_
     obtain ⟨t29, h29, hE_2⟩ := bind_some hE_2
     refine Tri.reg (l := [0, 1, 2, 3, 4, 5]) rfl ?_
     refine F.qn rfl (r_move rfl) (F.qn rfl (r_indexAddrS Tryz.underlying24 ti168 rfl hl_va0_1 rfl (rdl_some h29).1 (rdl_some h29).2.1) (F.qn rfl (r_loadA ta168 ti168 rfl rfl (fun w hw => (Rd.flat ((fun _ hw => hr_a0_1.sep hw) w hw) (rdl_some h29).2.2))) ?_))
     refine F.mn rfl (m_alloc ti168) ?_
     rintro _ _ ⟨b4_1, rfl, rfl⟩
     refine F.qn rfl (r_assign rfl) ?_
     refine F.ef0 rfl rfl (wanted_none rfl) (d_storeG0 (i := 0) (cs2 := [.int .i64 t29.1, .int .i64 t29.2.1, .int .i64 t29.2.2]) ti168 rfl rfl rfl rfl rfl (Nat.le_of_ble_eq_true rfl) (lf_cons rfl (lf_cons rfl (lf_cons rfl lf_nil)))) ?_
     rintro _ _ ⟨rfl, rfl⟩
     refine F.nil (Nrm.seq (Tri.seq ?_))
     obtain ⟨y68, hE_3, hE_2⟩ := bind_some hE_2
     refine Tri.cut (fun e' C' => e' = [(1, .pointer (some ⟨b1_1, 0, none⟩)), (24, va0_1), (25, .int .i64 (a0_1.length : Int)), (26, .int .i64 x26), (68, .bool y68)] ∧ C' = Sep w noM [R.box b1_1 27 [.int .i64 a0_0, va0_1, va0_2]]) ?_ (fun hj_2 => ?_)
     ·rintro _ _ ⟨rfl, rfl⟩
      refine Nrm.seq (Tri.cond (b := y68) rfl (fun g_3 => ?_) (fun g_3 => ?_))
      ·replace hE_2 := if_tt g_3 hE_2
       refine Tri.seq (Tri.reg (l := [0]) rfl ?_)
       refine F.qn rfl (r_assign rfl) (F.nil (Nrm.seq (Tri.ret ?_)))
       refine Rtn.block ?_
       refine Rtn.then ?_
       refine Rtn.then ?_
       refine Rtn.block ?_
       refine Rtn.then ?_
       cases hE_2
       replace h := Lr_inr h
       cases h
       exact Rtn.body (.tmp rfl .nil) (fun w hw => ⟨rfl, hw.ext⟩)
      ·replace hE_2 := if_ff g_3 hE_2
       refine Tri.skip (Nrm.block ?_)
       refine Nrm.seq (Tri.reg (l := [0, 1]) rfl ?_)
       refine F.qn rfl (r_add rfl rfl) (F.qn rfl (r_move rfl) (F.nil (Nrm.round ?_)))
       refine Rnd.only [1, 24, 25, 26] rfl ?_
       refine Rnd.pick [0] rfl rfl ?_
       exact ih_1 _ _ ⟨w64 (x26 + 1), hE_2, rfl, rfl⟩
     ·rcases Bool.eq_false_or_eq_true (decide (t29.1 < 0)) with g34 | g34
      ·replace hE_3 := if_tt g34 hE_3
       refine Tri.drawA mixedT Sep.up [(0, true), (1, true), (2, true), (3, true), (4, true), (5, true), (6, true), (7, true), (8, true), (9, true), (10, true), (11, true), (12, true), (13, true), (14, true), (15, true), (16, true), (17, true), (18, true), (19, true), (20, true), (21, true), (22, true), (23, true), (24, true), (25, true), (26, true), (27, true), (28, true), (29, true), (30, true), (31, true), (32, true), (33, true), (34, true), (35, true), (36, true), (37, true)] [] (by kernel_rfl) ?_
       refine S.qn rfl (r_indexAddrA Tryz.underlying168 ti3 rfl rfl (by decide) (by decide)) (S.qn rfl (r_load ta3 rfl (fun w hw => cell_1 (box_cells (i := 0) rfl w hw) rfl)) (S.qn rfl (r_lss rfl rfl) (S.qn rfl (r_move rfl) ?_)))
       iterate 5 refine S.skf rfl g34 ?_
       refine S.qn rfl (r_pick rfl rfl g34) (S.qn rfl (r_move rfl) ?_)
       iterate 5 refine S.skf rfl rfl ?_
       refine S.qn rfl (r_pick rfl rfl rfl) (S.qn rfl (r_move rfl) ?_)
       iterate 4 refine S.skf rfl rfl ?_
       refine S.qn rfl (r_pick rfl rfl rfl) (S.qn rfl (r_move rfl) ?_)
       iterate 3 refine S.skf rfl rfl ?_
       iterate 9 refine S.sk rfl rfl rfl (wanted_undef rfl rfl rfl) ?_
       refine S.skf rfl rfl (S.qn rfl (r_pick rfl rfl rfl) (S.nil (F.nil ?_)))
       cases hE_3
       refine Nrm.only [1, 24, 25, 26, 68] rfl ?_
       refine Nrm.pick [1] rfl rfl ?_
       exact hj_2 _ _ ⟨rfl, rfl⟩
      ·replace hE_3 := if_ff g34 hE_3
       rcases Bool.eq_false_or_eq_true (decide (t29.1 ≥ t29.2.1)) with g41 | g41
       ·replace hE_3 := if_tt g41 hE_3
        refine Tri.drawA mixedT Sep.up [(0, true), (1, true), (2, true), (3, true), (4, true), (5, true), (6, true), (7, true), (8, true), (9, true), (10, true), (11, true), (12, true), (13, true), (14, true), (15, true), (16, true), (17, true), (18, true), (19, true), (20, true), (21, true), (22, true), (23, true), (24, true), (25, true), (26, true), (27, true), (28, true), (29, true), (30, true), (31, true), (32, true), (33, true), (34, true), (35, true), (36, true), (37, true)] [] (by kernel_rfl) ?_
        refine S.qn rfl (r_indexAddrA Tryz.underlying168 ti3 rfl rfl (by decide) (by decide)) (S.qn rfl (r_load ta3 rfl (fun w hw => cell_1 (box_cells (i := 0) rfl w hw) rfl)) (S.qn rfl (r_lss rfl rfl) (S.qn rfl (r_move rfl) (S.qg rfl g34 (r_indexAddrA Tryz.underlying168 ti3 rfl rfl (by decide) (by decide)) ?_))))
        refine S.qg rfl g34 (r_load ta3 rfl (fun w hw => cell_1 (box_cells (i := 0) rfl w hw) rfl)) (S.qg rfl g34 (r_indexAddrA Tryz.underlying168 ti3 rfl rfl (by decide) (by decide)) (S.qg rfl g34 (r_load ta3 rfl (fun w hw => cell_1 (box_cells (i := 0) rfl w hw) rfl)) (S.qg rfl g34 (r_geq rfl rfl) (S.qn rfl (r_pickf rfl rfl g34) (S.qn rfl (r_move rfl) ?_)))))
        iterate 5 refine S.skf rfl g41 ?_
        refine S.qn rfl (r_pick rfl rfl g41) (S.qn rfl (r_move rfl) ?_)
        iterate 4 refine S.skf rfl rfl ?_
        refine S.qn rfl (r_pick rfl rfl rfl) (S.qn rfl (r_move rfl) ?_)
        iterate 3 refine S.skf rfl rfl ?_
        iterate 9 refine S.sk rfl rfl rfl (wanted_undef rfl rfl rfl) ?_
        refine S.skf rfl rfl (S.qn rfl (r_pick rfl rfl rfl) (S.nil (F.nil ?_)))
        cases hE_3
        refine Nrm.only [1, 24, 25, 26, 68] rfl ?_
        refine Nrm.pick [1] rfl rfl ?_
        exact hj_2 _ _ ⟨rfl, rfl⟩
       ·replace hE_3 := if_ff g41 hE_3
        rcases Bool.eq_false_or_eq_true (decide (t29.2.1 ≥ a0_0)) with g48 | g48
        ·replace hE_3 := if_tt g48 hE_3
         refine Tri.drawA mixedT Sep.up [(0, true), (1, true), (2, true), (3, true), (4, true), (5, true), (6, true), (7, true), (8, true), (9, true), (10, true), (11, true), (12, true), (13, true), (14, true), (15, true), (16, true), (17, true), (18, true), (19, true), (20, true), (21, true), (22, true), (23, true), (24, true), (25, true), (26, true), (27, true), (28, true), (29, true), (30, true), (31, true), (32, true), (33, true), (34, true), (35, true), (36, true), (37, true)] [] (by kernel_rfl) ?_
         refine S.qn rfl (r_indexAddrA Tryz.underlying168 ti3 rfl rfl (by decide) (by decide)) (S.qn rfl (r_load ta3 rfl (fun w hw => cell_1 (box_cells (i := 0) rfl w hw) rfl)) (S.qn rfl (r_lss rfl rfl) (S.qn rfl (r_move rfl) (S.qg rfl g34 (r_indexAddrA Tryz.underlying168 ti3 rfl rfl (by decide) (by decide)) (S.qg rfl g34 (r_load ta3 rfl (fun w hw => cell_1 (box_cells (i := 0) rfl w hw) rfl)) ?_)))))
         refine S.qg rfl g34 (r_indexAddrA Tryz.underlying168 ti3 rfl rfl (by decide) (by decide)) (S.qg rfl g34 (r_load ta3 rfl (fun w hw => cell_1 (box_cells (i := 0) rfl w hw) rfl)) (S.qg rfl g34 (r_geq rfl rfl) (S.qn rfl (r_pickf rfl rfl g34) (S.qn rfl (r_move rfl) (S.qg rfl g41 (r_indexAddrA Tryz.underlying168 ti3 rfl rfl (by decide) (by decide)) ?_)))))
         refine S.qg rfl g41 (r_load ta3 rfl (fun w hw => cell_1 (box_cells (i := 0) rfl w hw) rfl)) (S.qg rfl g41 (r_fieldAddr tf27_0 rfl) (S.qg rfl g41 (r_load ta3 rfl (fun w hw => cell_1 (box_cells (i := 1) rfl w hw) rfl)) (S.qg rfl g41 (r_geq rfl rfl) (S.qn rfl (r_pickf rfl rfl g41) (S.qn rfl (r_move rfl) ?_)))))
         iterate 4 refine S.skf rfl g48 ?_
         refine S.qn rfl (r_pick rfl rfl g48) (S.qn rfl (r_move rfl) ?_)
         iterate 3 refine S.skf rfl rfl ?_
         iterate 9 refine S.sk rfl rfl rfl (wanted_undef rfl rfl rfl) ?_
         refine S.skf rfl rfl (S.qn rfl (r_pick rfl rfl rfl) (S.nil (F.nil ?_)))
         cases hE_3
         refine Nrm.only [1, 24, 25, 26, 68] rfl ?_
         refine Nrm.pick [1] rfl rfl ?_
         exact hj_2 _ _ ⟨rfl, rfl⟩
        ·replace hE_3 := if_ff g48 hE_3
         obtain ⟨t51, h51, hE_3⟩ := bind_some hE_3
         rcases Bool.eq_false_or_eq_true (!t51) with g54 | g54
         ·replace hE_3 := if_tt g54 hE_3
          refine Tri.drawA mixedT Sep.up [(0, true), (1, true), (2, true), (3, true), (4, true), (5, true), (6, true), (7, true), (8, true), (9, true), (10, true), (11, true), (12, true), (13, true), (14, true), (15, true), (16, true), (17, true), (18, true), (19, true), (20, true), (21, true), (22, true), (23, true), (24, true), (25, true), (26, true), (27, true), (28, true), (29, true), (30, true), (31, true), (32, true), (33, true), (34, true), (35, true), (36, true), (37, true)] [] (by kernel_rfl) ?_
          refine S.qn rfl (r_indexAddrA Tryz.underlying168 ti3 rfl rfl (by decide) (by decide)) (S.qn rfl (r_load ta3 rfl (fun w hw => cell_1 (box_cells (i := 0) rfl w hw) rfl)) ?_)
          refine S.qn rfl (r_lss rfl rfl) (S.qn rfl (r_move rfl) (S.qg rfl g34 (r_indexAddrA Tryz.underlying168 ti3 rfl rfl (by decide) (by decide)) (S.qg rfl g34 (r_load ta3 rfl (fun w hw => cell_1 (box_cells (i := 0) rfl w hw) rfl)) (S.qg rfl g34 (r_indexAddrA Tryz.underlying168 ti3 rfl rfl (by decide) (by decide)) (S.qg rfl g34 (r_load ta3 rfl (fun w hw => cell_1 (box_cells (i := 0) rfl w hw) rfl)) ?_)))))
          refine S.qg rfl g34 (r_geq rfl rfl) (S.qn rfl (r_pickf rfl rfl g34) (S.qn rfl (r_move rfl) (S.qg rfl g41 (r_indexAddrA Tryz.underlying168 ti3 rfl rfl (by decide) (by decide)) (S.qg rfl g41 (r_load ta3 rfl (fun w hw => cell_1 (box_cells (i := 0) rfl w hw) rfl)) (S.qg rfl g41 (r_fieldAddr tf27_0 rfl) ?_)))))
          refine S.qg rfl g41 (r_load ta3 rfl (fun w hw => cell_1 (box_cells (i := 1) rfl w hw) rfl)) (S.qg rfl g41 (r_geq rfl rfl) (S.qn rfl (r_pickf rfl rfl g41) (S.qn rfl (r_move rfl) (S.qg rfl g48 (r_indexAddrA Tryz.underlying168 ti3 rfl rfl (by decide) (by decide)) (S.qg rfl g48 (r_load ta3 rfl (fun w hw => cell_1 (box_cells (i := 0) rfl w hw) rfl)) ?_)))))
          refine S.qc rfl rfl rfl (wg rfl rfl rfl g48) (q_callF (xs := _) rfl ok177 rfl rfl (fun w hw => impl_isSet.ok h51 w )) ?_
          refine S.qg rfl g48 (r_not rfl) (S.qn rfl (r_pickf rfl rfl g48) (S.qn rfl (r_move rfl) ?_))
          iterate 3 refine S.skf rfl g54 ?_
          iterate 9 refine S.sk rfl rfl rfl (wanted_undef rfl rfl rfl) ?_
          refine S.skf rfl g54 (S.qn rfl (r_pick rfl rfl g54) (S.nil (F.nil ?_)))
          cases hE_3
          refine Nrm.only [1, 24, 25, 26, 68] rfl ?_
          refine Nrm.pick [1] rfl rfl ?_
          exact hj_2 _ _ ⟨rfl, rfl⟩
         ·replace hE_3 := if_ff g54 hE_3
          rcases Bool.eq_false_or_eq_true (decide (x26 > 0)) with g57 | g57
          ·replace hE_3 := if_tt g57 hE_3
           obtain ⟨t62, h62, hE_3⟩ := bind_some hE_3
           obtain ⟨t65, h65, hE_3⟩ := bind_some hE_3
           refine Tri.drawA mixedT Sep.up [(0, true), (1, true), (2, true), (3, true), (4, true), (5, true), (6, true), (7, true), (8, true), (9, true), (10, true), (11, true), (12, true), (13, true), (14, true), (15, true), (16, true), (17, true), (18, true), (19, true), (20, true), (21, true), (22, true), (23, true), (24, true), (25, true), (26, true), (27, true), (28, true), (29, true), (30, true), (31, true), (32, true), (33, true), (34, true), (35, true), (36, true), (37, true)] [] (by kernel_rfl) ?_
           refine S.qn rfl (r_indexAddrA Tryz.underlying168 ti3 rfl rfl (by decide) (by decide)) (S.qn rfl (r_load ta3 rfl (fun w hw => cell_1 (box_cells (i := 0) rfl w hw) rfl)) ?_)
           refine S.qn rfl (r_lss rfl rfl) (S.qn rfl (r_move rfl) (S.qg rfl g34 (r_indexAddrA Tryz.underlying168 ti3 rfl rfl (by decide) (by decide)) (S.qg rfl g34 (r_load ta3 rfl (fun w hw => cell_1 (box_cells (i := 0) rfl w hw) rfl)) (S.qg rfl g34 (r_indexAddrA Tryz.underlying168 ti3 rfl rfl (by decide) (by decide)) (S.qg rfl g34 (r_load ta3 rfl (fun w hw => cell_1 (box_cells (i := 0) rfl w hw) rfl)) ?_)))))
           refine S.qg rfl g34 (r_geq rfl rfl) (S.qn rfl (r_pickf rfl rfl g34) (S.qn rfl (r_move rfl) (S.qg rfl g41 (r_indexAddrA Tryz.underlying168 ti3 rfl rfl (by decide) (by decide)) (S.qg rfl g41 (r_load ta3 rfl (fun w hw => cell_1 (box_cells (i := 0) rfl w hw) rfl)) (S.qg rfl g41 (r_fieldAddr tf27_0 rfl) ?_)))))
           refine S.qg rfl g41 (r_load ta3 rfl (fun w hw => cell_1 (box_cells (i := 1) rfl w hw) rfl)) (S.qg rfl g41 (r_geq rfl rfl) (S.qn rfl (r_pickf rfl rfl g41) (S.qn rfl (r_move rfl) (S.qg rfl g48 (r_indexAddrA Tryz.underlying168 ti3 rfl rfl (by decide) (by decide)) (S.qg rfl g48 (r_load ta3 rfl (fun w hw => cell_1 (box_cells (i := 0) rfl w hw) rfl)) ?_)))))
           refine S.qc rfl rfl rfl (wg rfl rfl rfl g48) (q_callF (xs := _) rfl ok177 rfl rfl (fun w hw => impl_isSet.ok h51 w )) ?_
           refine S.qg rfl g48 (r_not rfl) ?_
           refine S.qn rfl (r_pickf rfl rfl g48) (S.qn rfl (r_move rfl) (S.qg rfl g54 (r_move rfl) (S.qg rfl g54 (r_gtr rfl rfl) (S.qg rfl g54 (r_move rfl) (S.qg rfl g57 (r_fieldAddr tf27_1 rfl) ?_)))))
           refine S.qg rfl g57 (r_load ta24 rfl (fun w hw => cell_1 (box_cells (i := 1) rfl w hw) rfl)) (S.qg rfl g57 (r_move rfl) (S.qg rfl g57 (r_sub rfl rfl) (S.qg rfl g57 (r_indexAddrS Tryz.underlying24 ti168 rfl hl_va0_1 rfl (rdl_some h62).1 (rdl_some h62).2.1) (S.qg rfl g57 (r_loadA ta168 ti168 rfl rfl (fun w hw => (Rd.flat ((fun _ hw => hr_a0_1.sep hw) w hw) (rdl_some h62).2.2))) (S.qg rfl g57 (r_loadA ta168 ti168 rfl rfl (fun w hw => (box_cells (i := 0) rfl w hw))) ?_)))))
           refine S.qc rfl rfl rfl (wg rfl rfl rfl g57) (q_callF (xs := _) rfl ok184 rfl rfl (fun w hw => impl_compareDoors.ok h65 w )) ?_
           refine S.qg rfl g57 (r_geq rfl rfl) (S.qg rfl g54 (r_pick rfl rfl g57) (S.qn rfl (r_pickf rfl rfl g54) (S.nil (F.nil ?_))))
           cases hE_3
           refine Nrm.only [1, 24, 25, 26, 68] rfl ?_
           refine Nrm.pick [1] rfl rfl ?_
           exact hj_2 _ _ ⟨rfl, rfl⟩
          ·replace hE_3 := if_ff g57 hE_3
           refine Tri.drawA mixedT Sep.up [(0, true), (1, true), (2, true), (3, true), (4, true), (5, true), (6, true), (7, true), (8, true), (9, true), (10, true), (11, true), (12, true), (13, true), (14, true), (15, true), (16, true), (17, true), (18, true), (19, true), (20, true), (21, true), (22, true), (23, true), (24, true), (25, true), (26, true), (27, true), (28, true), (29, true), (30, true), (31, true), (32, true), (33, true), (34, true), (35, true), (36, true), (37, true)] [] (by kernel_rfl) ?_
           refine S.qn rfl (r_indexAddrA Tryz.underlying168 ti3 rfl rfl (by decide) (by decide)) (S.qn rfl (r_load ta3 rfl (fun w hw => cell_1 (box_cells (i := 0) rfl w hw) rfl)) ?_)
           refine S.qn rfl (r_lss rfl rfl) (S.qn rfl (r_move rfl) (S.qg rfl g34 (r_indexAddrA Tryz.underlying168 ti3 rfl rfl (by decide) (by decide)) (S.qg rfl g34 (r_load ta3 rfl (fun w hw => cell_1 (box_cells (i := 0) rfl w hw) rfl)) (S.qg rfl g34 (r_indexAddrA Tryz.underlying168 ti3 rfl rfl (by decide) (by decide)) (S.qg rfl g34 (r_load ta3 rfl (fun w hw => cell_1 (box_cells (i := 0) rfl w hw) rfl)) ?_)))))
           refine S.qg rfl g34 (r_geq rfl rfl) (S.qn rfl (r_pickf rfl rfl g34) (S.qn rfl (r_move rfl) (S.qg rfl g41 (r_indexAddrA Tryz.underlying168 ti3 rfl rfl (by decide) (by decide)) (S.qg rfl g41 (r_load ta3 rfl (fun w hw => cell_1 (box_cells (i := 0) rfl w hw) rfl)) (S.qg rfl g41 (r_fieldAddr tf27_0 rfl) ?_)))))
           refine S.qg rfl g41 (r_load ta3 rfl (fun w hw => cell_1 (box_cells (i := 1) rfl w hw) rfl)) (S.qg rfl g41 (r_geq rfl rfl) (S.qn rfl (r_pickf rfl rfl g41) (S.qn rfl (r_move rfl) (S.qg rfl g48 (r_indexAddrA Tryz.underlying168 ti3 rfl rfl (by decide) (by decide)) (S.qg rfl g48 (r_load ta3 rfl (fun w hw => cell_1 (box_cells (i := 0) rfl w hw) rfl)) ?_)))))
           refine S.qc rfl rfl rfl (wg rfl rfl rfl g48) (q_callF (xs := _) rfl ok177 rfl rfl (fun w hw => impl_isSet.ok h51 w )) ?_
           refine S.qg rfl g48 (r_not rfl) (S.qn rfl (r_pickf rfl rfl g48) (S.qn rfl (r_move rfl) (S.qg rfl g54 (r_move rfl) (S.qg rfl g54 (r_gtr rfl rfl) (S.qg rfl g54 (r_move rfl) ?_)))))
           iterate 9 refine S.skf rfl g57 ?_
           refine S.qg rfl g54 (r_pickf rfl rfl g57) (S.qn rfl (r_pickf rfl rfl g54) (S.nil (F.nil ?_)))
           cases hE_3
           refine Nrm.only [1, 24, 25, 26, 68] rfl ?_
           refine Nrm.pick [1] rfl rfl ?_
           exact hj_2 _ _ ⟨rfl, rfl⟩
    ·replace hE_2 := if_ff g_2 hE_2
     refine Tri.exit ?_
     refine Exi.then ?_
     refine Exi.then ?_
     refine Exi.same ?_
     cases hE_2
     replace h := Lr_inl h
     refine Nrm.seq (Tri.seq ?_)
     obtain ⟨t72, h72, h⟩ := bind_some h
     refine Tri.reg (l := [0, 1, 2, 3, 4]) rfl ?_
     refine F.qn rfl (r_fieldAddr tf27_2 rfl) (F.qn rfl (r_load ta25 rfl (fun w hw => cell_1 (box_cells (i := 0) rfl w hw) rfl)) ?_)
     refine F.qcn rfl (q_callF (xs := _) rfl ok179 rfl rfl (fun w hw => slices_ContainsFunc_int_int.ok h72 w ((fun _ hw => hr_a0_2.sep hw) w hw) ok185 (fun w2 he2 z0 y2 hy2 => impl_IsMaze_1.ok hy2 w2 ))) ?_
     refine F.qn rfl (r_not rfl) (F.qn rfl (r_assign rfl) (F.nil (Nrm.seq (Tri.ret ?_))))
     cases h
     exact Rtn.body (.tmp rfl .nil) (fun w hw => ⟨rfl, hw.ext⟩)
 ·obtain ⟨t7, h7, hE_1⟩ := bind_some hE_1
  rcases Bool.eq_false_or_eq_true (!t7) with g9 | g9
  ·replace hE_1 := if_tt g9 hE_1
   refine Tri.reg (l := List.range 18) rfl ?_
   refine F.qn rfl (r_fieldAddr tf27_0 rfl) (F.qn rfl (r_load ta3 rfl (fun w hw => cell_1 (box_cells (i := 0) rfl w hw) rfl)) ?_)
   refine F.qcn rfl (q_callF (xs := _) rfl ok103 rfl rfl (fun w hw => impl_within.ok h7 w )) ?_
   refine F.qn rfl (r_not rfl) (F.qn rfl (r_move rfl) ?_)
   iterate 4 refine F.skf rfl g9 ?_
   refine F.qn rfl (r_pick rfl rfl g9) (F.qn rfl (r_move rfl) ?_)
   iterate 6 refine F.skf rfl rfl ?_
   refine F.qn rfl (r_pick rfl rfl rfl) (F.nil ?_)
   cases hE_1
   refine Nrm.only [1, 22] rfl ?_
   refine Nrm.pick [0] rfl rfl ?_
   exact hj_1 _ _ ⟨rfl, rfl⟩
  ·replace hE_1 := if_ff g9 hE_1
   rcases Bool.eq_false_or_eq_true (decide ((a0_1.length : Int) > 30)) with g15 | g15
   ·replace hE_1 := if_tt g15 hE_1
    refine Tri.reg (l := List.range 18) rfl ?_
    refine F.qn rfl (r_fieldAddr tf27_0 rfl) (F.qn rfl (r_load ta3 rfl (fun w hw => cell_1 (box_cells (i := 0) rfl w hw) rfl)) ?_)
    refine F.qcn rfl (q_callF (xs := _) rfl ok103 rfl rfl (fun w hw => impl_within.ok h7 w )) ?_
    refine F.qn rfl (r_not rfl) (F.qn rfl (r_move rfl) ?_)
    refine F.qg rfl g9 (r_fieldAddr tf27_1 rfl) (F.qg rfl g9 (r_load ta24 rfl (fun w hw => cell_1 (box_cells (i := 0) rfl w hw) rfl)) (F.qg rfl g9 (r_len Tryz.underlying24 rfl hl_va0_1) (F.qg rfl g9 (r_gtr rfl rfl) (F.qn rfl (r_pickf rfl rfl g9) (F.qn rfl (r_move rfl) ?_)))))
    iterate 6 refine F.skf rfl g15 ?_
    refine F.qn rfl (r_pick rfl rfl g15) (F.nil ?_)
    cases hE_1
    refine Nrm.only [1, 22] rfl ?_
    refine Nrm.pick [0] rfl rfl ?_
    exact hj_1 _ _ ⟨rfl, rfl⟩
   ·replace hE_1 := if_ff g15 hE_1
    refine Tri.reg (l := List.range 18) rfl ?_
    refine F.qn rfl (r_fieldAddr tf27_0 rfl) (F.qn rfl (r_load ta3 rfl (fun w hw => cell_1 (box_cells (i := 0) rfl w hw) rfl)) ?_)
    refine F.qcn rfl (q_callF (xs := _) rfl ok103 rfl rfl (fun w hw => impl_within.ok h7 w )) ?_
    refine F.qn rfl (r_not rfl) (F.qn rfl (r_move rfl) (F.qg rfl g9 (r_fieldAddr tf27_1 rfl) ?_))
    refine F.qg rfl g9 (r_load ta24 rfl (fun w hw => cell_1 (box_cells (i := 0) rfl w hw) rfl)) (F.qg rfl g9 (r_len Tryz.underlying24 rfl hl_va0_1) (F.qg rfl g9 (r_gtr rfl rfl) (F.qn rfl (r_pickf rfl rfl g9) (F.qn rfl (r_move rfl) (F.qg rfl g15 (r_fieldAddr tf27_2 rfl) ?_)))))
    refine F.qg rfl g15 (r_load ta25 rfl (fun w hw => cell_1 (box_cells (i := 0) rfl w hw) rfl)) (F.qg rfl g15 (r_len Tryz.underlying25 rfl hl_va0_2) (F.qg rfl g15 (r_fieldAddr tf27_0 rfl) (F.qg rfl g15 (r_load ta3 rfl (fun w hw => cell_1 (box_cells (i := 0) rfl w hw) rfl)) (F.qg rfl g15 (r_neq rfl rfl) (F.qn rfl (r_pickf rfl rfl g15) (F.nil ?_))))))
    cases hE_1
    refine Nrm.only [1, 22] rfl ?_
    refine Nrm.pick [0] rfl rfl ?_
    exact hj_1 _ _ ⟨rfl, rfl⟩


def impl_asked.f (k : Nat) (a0_0 : Int) (a0_1 : List (Int × Int × Int)) (a0_2 : List Int) (a1 : Int) : Option (Bool) := ((impl_IsMaze.f k a0_0 a0_1 a0_2).bind fun t6 => (if t6 = true then (impl_isSet.f k a1).bind fun t9 => some t9 else some false)).bind fun y4 => some y4

theorem impl_asked.ok {k : Nat}  {a0_0 : Int} {a0_1 : List (Int × Int × Int)} {a0_2 : List Int} {a1 : Int} {r0 : Bool} (h : impl_asked.f k a0_0 a0_1 a0_2 a1 = some r0) (w : World) {va0_1 : Value} {va0_2 : Value} (hr_a0_1 : Rd w va0_1 a0_1) (hr_a0_2 : Rd w va0_2 a0_2) :
  Calls Tryz.prog 96 ([.agg ([.int .i64 a0_0, va0_1, va0_2].toArray), .int .i64 a1] : List Value).toArray w (fun e w' => e = .returned (.bool r0) ∧ Ext w w') := by
 unfold impl_asked.f at h
 have hl_va0_1 := hr_a0_1.len
 have hl_va0_2 := hr_a0_2.len
 refine Calls.of_tri (N := 11) Tryz.func96 rfl rfl rfl (Sep.nil (M := noM)) ?_
 refine Tri.seq (Tri.reg (l := [0, 1]) rfl ?_)
 refine F.mn rfl (m_boxG rfl rfl) ?_
 rintro _ _ ⟨b2_1, rfl, rfl⟩
 refine F.qn rfl (r_assign rfl) (F.nil (Nrm.seq (Tri.seq ?_)))
 obtain ⟨y4, hE_1, h⟩ := bind_some h
 refine Tri.cut (fun e' C' => e' = [(4, .bool y4)] ∧ C' = Sep w noM []) ?_ (fun hj_1 => ?_)
 ·rintro _ _ ⟨rfl, rfl⟩
  refine Nrm.seq (Tri.ret ?_)
  cases h
  exact Rtn.body (.tmp rfl .nil) (fun w hw => ⟨rfl, hw.ext⟩)
 ·obtain ⟨t6, h6, hE_1⟩ := bind_some hE_1
  rcases Bool.eq_false_or_eq_true (t6) with g7 | g7
  ·replace hE_1 := if_tt g7 hE_1
   obtain ⟨t9, h9, hE_1⟩ := bind_some hE_1
   refine Tri.reg (l := [0, 1, 2, 3, 4, 5, 6]) rfl ?_
   refine F.qn rfl (r_loadA ta27 ti27 rfl rfl (fun w hw => (box_cells (i := 0) rfl w hw))) ?_
   refine F.qcn rfl (q_callF (xs := _) rfl ok102 rfl rfl (fun w hw => impl_IsMaze.ok h6 w ((fun _ hw => hr_a0_1.sep hw) w hw) ((fun _ hw => hr_a0_2.sep hw) w hw))) ?_
   refine F.qn rfl (r_move rfl) (F.qg rfl g7 (r_move rfl) ?_)
   refine F.qc rfl rfl rfl (wg rfl rfl rfl g7) (q_callF (xs := _) rfl ok177 rfl rfl (fun w hw => impl_isSet.ok h9 w )) ?_
   refine F.qn rfl (r_pick rfl rfl g7) (F.qn rfl (r_assign rfl) (F.nil ?_))
   cases hE_1
   refine Nrm.only [4] rfl ?_
   refine Nrm.pick [] rfl rfl ?_
   exact hj_1 _ _ ⟨rfl, rfl⟩
  ·replace hE_1 := if_ff g7 hE_1
   refine Tri.reg (l := [0, 1, 2, 3, 4, 5, 6]) rfl ?_
   refine F.qn rfl (r_loadA ta27 ti27 rfl rfl (fun w hw => (box_cells (i := 0) rfl w hw))) ?_
   refine F.qcn rfl (q_callF (xs := _) rfl ok102 rfl rfl (fun w hw => impl_IsMaze.ok h6 w ((fun _ hw => hr_a0_1.sep hw) w hw) ((fun _ hw => hr_a0_2.sep hw) w hw))) ?_
   refine F.qn rfl (r_move rfl) (F.skf rfl g7 (F.skf rfl g7 (F.qn rfl (r_pickf rfl rfl g7) (F.qn rfl (r_assign rfl) (F.nil ?_)))))
   cases hE_1
   refine Nrm.only [4] rfl ?_
   refine Nrm.pick [] rfl rfl ?_
   exact hj_1 _ _ ⟨rfl, rfl⟩


def impl_won.f (k : Nat) (a0_0 : Int) (a0_1 : List (Int × Int × Int)) (a0_2 : List Int) (a1 : Int) : Option (Bool) := ((impl_asked.f k a0_0 a0_1 a0_2 a1).bind fun t7 => (if t7 = true then (impl_canWin.f k a0_0 a0_1 a0_2 a1).bind fun t11 => some t11 else some false)).bind fun y4 => some y4

theorem impl_won.ok {k : Nat}  {a0_0 : Int} {a0_1 : List (Int × Int × Int)} {a0_2 : List Int} {a1 : Int} {r0 : Bool} (h : impl_won.f k a0_0 a0_1 a0_2 a1 = some r0) (w : World) {va0_1 : Value} {va0_2 : Value} (hr_a0_1 : Rd w va0_1 a0_1) (hr_a0_2 : Rd w va0_2 a0_2) :
  Calls Tryz.prog 84 ([.agg ([.int .i64 a0_0, va0_1, va0_2].toArray), .int .i64 a1] : List Value).toArray w (fun e w' => e = .returned (.bool r0) ∧ Ext w w') := by
 unfold impl_won.f at h
 have hl_va0_1 := hr_a0_1.len
 have hl_va0_2 := hr_a0_2.len
 refine Calls.of_tri (N := 13) Tryz.func84 rfl rfl rfl (Sep.nil (M := noM)) ?_
 refine Tri.seq (Tri.reg (l := [0, 1]) rfl ?_)
 refine F.mn rfl (m_boxG rfl rfl) ?_
 rintro _ _ ⟨b2_1, rfl, rfl⟩
 refine F.qn rfl (r_assign rfl) (F.nil (Nrm.seq (Tri.seq ?_)))
 obtain ⟨y4, hE_1, h⟩ := bind_some h
 refine Tri.cut (fun e' C' => e' = [(4, .bool y4)] ∧ C' = Sep w noM []) ?_ (fun hj_1 => ?_)
 ·rintro _ _ ⟨rfl, rfl⟩
  refine Nrm.seq (Tri.ret ?_)
  cases h
  exact Rtn.body (.tmp rfl .nil) (fun w hw => ⟨rfl, hw.ext⟩)
 ·obtain ⟨t7, h7, hE_1⟩ := bind_some hE_1
  rcases Bool.eq_false_or_eq_true (t7) with g8 | g8
  ·replace hE_1 := if_tt g8 hE_1
   obtain ⟨t11, h11, hE_1⟩ := bind_some hE_1
   refine Tri.reg (l := [0, 1, 2, 3, 4, 5, 6, 7, 8]) rfl ?_
   refine F.qn rfl (r_loadA ta27 ti27 rfl rfl (fun w hw => (box_cells (i := 0) rfl w hw))) (F.qn rfl (r_move rfl) ?_)
   refine F.qcn rfl (q_callF (xs := _) rfl ok96 rfl rfl (fun w hw => impl_asked.ok h7 w ((fun _ hw => hr_a0_1.sep hw) w hw) ((fun _ hw => hr_a0_2.sep hw) w hw))) ?_
   refine F.qn rfl (r_move rfl) (F.qg rfl g8 (r_loadA ta27 ti27 rfl rfl (fun w hw => (box_cells (i := 0) rfl w hw))) (F.qg rfl g8 (r_move rfl) ?_))
   refine F.qc rfl rfl rfl (wg rfl rfl rfl g8) (q_callF (xs := _) rfl ok85 rfl rfl (fun w hw => impl_canWin.ok h11 w ((fun _ hw => hr_a0_1.sep hw) w hw) ((fun _ hw => hr_a0_2.sep hw) w hw))) ?_
   refine F.qn rfl (r_pick rfl rfl g8) (F.qn rfl (r_assign rfl) (F.nil ?_))
   cases hE_1
   refine Nrm.only [4] rfl ?_
   refine Nrm.pick [] rfl rfl ?_
   exact hj_1 _ _ ⟨rfl, rfl⟩
  ·replace hE_1 := if_ff g8 hE_1
   refine Tri.reg (l := [0, 1, 2, 3, 4, 5, 6, 7, 8]) rfl ?_
   refine F.qn rfl (r_loadA ta27 ti27 rfl rfl (fun w hw => (box_cells (i := 0) rfl w hw))) (F.qn rfl (r_move rfl) ?_)
   refine F.qcn rfl (q_callF (xs := _) rfl ok96 rfl rfl (fun w hw => impl_asked.ok h7 w ((fun _ hw => hr_a0_1.sep hw) w hw) ((fun _ hw => hr_a0_2.sep hw) w hw))) ?_
   refine F.qn rfl (r_move rfl) ?_
   iterate 3 refine F.skf rfl g8 ?_
   refine F.qn rfl (r_pickf rfl rfl g8) (F.qn rfl (r_assign rfl) (F.nil ?_))
   cases hE_1
   refine Nrm.only [4] rfl ?_
   refine Nrm.pick [] rfl rfl ?_
   exact hj_1 _ _ ⟨rfl, rfl⟩


def slices_Clone_int_int.f (k : Nat) (a0 : List Int) : Option ((List Int)) := if (([] : List (Int)) ++ a0).length < 1099511627776 then some (([] : List (Int)) ++ a0) else none

theorem slices_Clone_int_int.ok {k : Nat}  {a0 : List Int} {r0 : List Int} (h : slices_Clone_int_int.f k a0 = some r0) (w : World) {va0 : Value} (hr_a0 : Rd w va0 a0) :
  Calls Tryz.prog 144 ([va0] : List Value).toArray w (Post (fun u ns => ∃ (Sr0 : Nat → Prop), SlLen u r0.length ∧ ns = [R.sl Sr0 u r0]) w) := by
 unfold slices_Clone_int_int.f at h
 have hl_va0 := hr_a0.len
 rcases Rd.cases hr_a0 with ⟨rfl, rfl⟩ | ⟨pa0, ca0, rfl⟩
 ·replace h : some [] = some r0 := by simpa using h
  refine Calls.of_tri (N := 8) Tryz.func144 rfl rfl rfl (Sep.nil (M := noM)) ?_
  refine Tri.seq (Tri.reg (l := [0]) rfl ?_)
  refine F.qn rfl (r_assign rfl) (F.nil (Nrm.seq (Tri.seq (Tri.seq (Tri.reg (l := [0, 1]) rfl ?_)))))
  refine F.qn rfl (r_move rfl) (F.qn rfl (r_eqlNN Tryz.underlying25 rfl rfl) (F.nil (Nrm.seq (Tri.condT rfl rfl ?_))))
  refine Tri.seq (Tri.reg (l := [0]) rfl ?_)
  refine F.qn rfl (r_assign rfl) (F.nil (Nrm.seq (Tri.ret ?_)))
  refine Rtn.then ?_
  cases h
  exact Rtn.body (.tmp rfl .nil) (fun w hw => ⟨_, _, rfl, ⟨fun _ => False, len_nil, rfl⟩, Sep.pick (is := [0]) rfl rfl hw.pushNil⟩)
 ·refine Calls.of_tri (N := 8) Tryz.func144 rfl rfl rfl (Sep.nil (M := noM)) ?_
  refine Tri.seq (Tri.reg (l := [0]) rfl ?_)
  refine F.qn rfl (r_assign rfl) (F.nil (Nrm.seq (Tri.seq (Tri.seq (Tri.reg (l := [0, 1]) rfl ?_)))))
  refine F.qn rfl (r_move rfl) (F.qn rfl (r_eqlN Tryz.underlying25 rfl rfl ⟨_, _, rfl⟩) (F.nil (Nrm.seq (Tri.condF rfl rfl ?_))))
  refine Tri.skip (Nrm.seq (Tri.seq ?_))
  obtain ⟨hs7, h⟩ := ck h
  refine Tri.reg (l := [0, 1, 2, 3]) rfl ?_
  refine F.mn rfl (m_build0 (α := Int) Tryz.underlying25 ti3) ?_
  rintro v5_1 _ ⟨S5_1, hl_v5_1, rfl⟩
  refine F.qn rfl (r_move rfl) ?_
  refine F.efn rfl (d_append (i := 0) Tryz.underlying25 Tryz.underlying25 ti3 rfl (by decide) rfl rfl rfl (fun _ hw => hr_a0.sep hw) hs7) ?_
  rintro v7_1 _ ⟨S7_1, rfl, hl_v7_1⟩
  refine F.qn rfl (r_assign rfl) (F.nil (Nrm.seq (Tri.ret ?_)))
  cases h
  exact Rtn.body (.tmp rfl .nil) (fun w hw => ⟨_, _, rfl, ⟨S7_1, hl_v7_1, rfl⟩, Sep.pick (is := [0]) rfl rfl hw⟩)


def slices_Clone__3int__3int.f (k : Nat) (a0 : List (Int × Int × Int)) : Option ((List (Int × Int × Int))) := if (([] : List (Int × Int × Int)) ++ a0).length < 1099511627776 then some (([] : List (Int × Int × Int)) ++ a0) else none

theorem slices_Clone__3int__3int.ok {k : Nat}  {a0 : List (Int × Int × Int)} {r0 : List (Int × Int × Int)} (h : slices_Clone__3int__3int.f k a0 = some r0) (w : World) {va0 : Value} (hr_a0 : Rd w va0 a0) :
  Calls Tryz.prog 195 ([va0] : List Value).toArray w (Post (fun u ns => ∃ (Sr0 : Nat → Prop), SlLen u r0.length ∧ ns = [R.sl Sr0 u r0]) w) := by
 unfold slices_Clone__3int__3int.f at h
 have hl_va0 := hr_a0.len
 rcases Rd.cases hr_a0 with ⟨rfl, rfl⟩ | ⟨pa0, ca0, rfl⟩
 ·replace h : some [] = some r0 := by simpa using h
  refine Calls.of_tri (N := 8) Tryz.func195 rfl rfl rfl (Sep.nil (M := noM)) ?_
  refine Tri.seq (Tri.reg (l := [0]) rfl ?_)
  refine F.qn rfl (r_assign rfl) (F.nil (Nrm.seq (Tri.seq (Tri.seq (Tri.reg (l := [0, 1]) rfl ?_)))))
  refine F.qn rfl (r_move rfl) (F.qn rfl (r_eqlNN Tryz.underlying24 rfl rfl) (F.nil (Nrm.seq (Tri.condT rfl rfl ?_))))
  refine Tri.seq (Tri.reg (l := [0]) rfl ?_)
  refine F.qn rfl (r_assign rfl) (F.nil (Nrm.seq (Tri.ret ?_)))
  refine Rtn.then ?_
  cases h
  exact Rtn.body (.tmp rfl .nil) (fun w hw => ⟨_, _, rfl, ⟨fun _ => False, len_nil, rfl⟩, Sep.pick (is := [0]) rfl rfl hw.pushNil⟩)
 ·refine Calls.of_tri (N := 8) Tryz.func195 rfl rfl rfl (Sep.nil (M := noM)) ?_
  refine Tri.seq (Tri.reg (l := [0]) rfl ?_)
  refine F.qn rfl (r_assign rfl) (F.nil (Nrm.seq (Tri.seq (Tri.seq (Tri.reg (l := [0, 1]) rfl ?_)))))
  refine F.qn rfl (r_move rfl) (F.qn rfl (r_eqlN Tryz.underlying24 rfl rfl ⟨_, _, rfl⟩) (F.nil (Nrm.seq (Tri.condF rfl rfl ?_))))
  refine Tri.skip (Nrm.seq (Tri.seq ?_))
  obtain ⟨hs7, h⟩ := ck h
  refine Tri.reg (l := [0, 1, 2, 3]) rfl ?_
  refine F.mn rfl (m_build0 (α := Int × Int × Int) Tryz.underlying24 ti168) ?_
  rintro v5_1 _ ⟨S5_1, hl_v5_1, rfl⟩
  refine F.qn rfl (r_move rfl) ?_
  refine F.efn rfl (d_append (i := 0) Tryz.underlying24 Tryz.underlying24 ti168 rfl (by decide) rfl rfl rfl (fun _ hw => hr_a0.sep hw) hs7) ?_
  rintro v7_1 _ ⟨S7_1, rfl, hl_v7_1⟩
  refine F.qn rfl (r_assign rfl) (F.nil (Nrm.seq (Tri.ret ?_)))
  cases h
  exact Rtn.body (.tmp rfl .nil) (fun w hw => ⟨_, _, rfl, ⟨S7_1, hl_v7_1, rfl⟩, Sep.pick (is := [0]) rfl rfl hw⟩)


def impl_own.f (k : Nat) (a0_0 : Int) (a0_1 : List (Int × Int × Int)) (a0_2 : List Int) : Option (Int × (List (Int × Int × Int)) × (List Int)) := (slices_Clone__3int__3int.f k a0_1).bind fun t7 => (slices_Clone_int_int.f k a0_2).bind fun t10 => some (a0_0, t7, t10)

theorem impl_own.ok {k : Nat}  {a0_0 : Int} {a0_1 : List (Int × Int × Int)} {a0_2 : List Int} {r0 : Int} {r1 : List (Int × Int × Int)} {r2 : List Int} (h : impl_own.f k a0_0 a0_1 a0_2 = some (r0, r1, r2)) (w : World) {va0_1 : Value} {va0_2 : Value} (hr_a0_1 : Rd w va0_1 a0_1) (hr_a0_2 : Rd w va0_2 a0_2) :
  Calls Tryz.prog 107 ([.agg ([.int .i64 a0_0, va0_1, va0_2].toArray)] : List Value).toArray w (Post (fun u ns => ∃ (ur1 : Value) (Sr1 : Nat → Prop) (ur2 : Value) (Sr2 : Nat → Prop), u = .agg [.int .i64 r0, ur1, ur2].toArray ∧ SlLen ur1 r1.length ∧ SlLen ur2 r2.length ∧ ns = [R.sl Sr1 ur1 r1, R.sl Sr2 ur2 r2]) w) := by
 unfold impl_own.f at h
 have hl_va0_1 := hr_a0_1.len
 have hl_va0_2 := hr_a0_2.len
 refine Calls.of_tri (N := 12) Tryz.func107 rfl rfl rfl (Sep.nil (M := noM)) ?_
 refine Tri.seq (Tri.reg (l := [0, 1]) rfl ?_)
 refine F.mn rfl (m_boxG rfl rfl) ?_
 rintro _ _ ⟨b1_1, rfl, rfl⟩
 refine F.mn rfl (m_alloc ti27) ?_
 rintro _ _ ⟨b2_1, rfl, rfl⟩
 refine F.nil (Nrm.seq (Tri.seq ?_))
 obtain ⟨t7, h7, h⟩ := bind_some h
 obtain ⟨t10, h10, h⟩ := bind_some h
 refine Tri.drawA mixedT Sep.up [(0, true), (1, true), (2, true), (3, true), (5, true), (6, true), (4, false), (7, false), (8, true)] [9] (by kernel_rfl) ?_
 refine S.qn rfl (r_fieldAddr tf27_0 rfl) (S.qn rfl (r_load ta3 rfl (fun w hw => cell_1 (box_cells (i := 1) rfl w hw) rfl)) (S.qn rfl (r_fieldAddr tf27_1 rfl) (S.qn rfl (r_load ta24 rfl (fun w hw => cell_1 (box_cells (i := 1) rfl w hw) rfl)) (S.qn rfl (r_fieldAddr tf27_2 rfl) (S.qn rfl (r_load ta25 rfl (fun w hw => cell_1 (box_cells (i := 1) rfl w hw) rfl)) ?_)))))
 refine S.m rfl rfl rfl (wanted_none rfl) (m_callF (xs := _) rfl ok195 rfl rfl (fun w hw => slices_Clone__3int__3int.ok h7 w ((fun _ hw => hr_a0_1.sep hw) w hw))) ?_
 rintro v7_2 _ ⟨_, ⟨S7_2, hl_v7_2, rfl⟩, rfl⟩
 refine S.m rfl rfl rfl (wanted_none rfl) (m_callF (xs := _) rfl ok144 rfl rfl (fun w hw => slices_Clone_int_int.ok h10 w ((fun _ hw => hr_a0_2.sep hw) w hw))) ?_
 rintro v10_2 _ ⟨_, ⟨S10_2, hl_v10_2, rfl⟩, rfl⟩
 refine S.qn rfl (r_build (pl := [(0, 1), (1, 1), (2, 1)]) (qs := [(0, [.int .i64 a0_0]), (1, [v7_2]), (2, [v10_2])]) (cs := [.int .i64 a0_0, v7_2, v10_2]) (by kernel_rfl) ti27 rfl (.cons rfl rfl (Nat.le_of_ble_eq_true rfl) (.cons (sl_cells hl_v7_2) rfl (Nat.le_of_ble_eq_true rfl) (.cons (sl_cells hl_v10_2) rfl (Nat.le_of_ble_eq_true rfl) .nil))) rfl rfl) (S.nil (F.ef0 rfl rfl (wanted_none rfl) (d_storeG0 (i := 2) (cs2 := [.int .i64 a0_0, v7_2, v10_2]) ti27 rfl rfl rfl rfl rfl (Nat.le_of_ble_eq_true rfl) (lf_cons rfl (lf_cons (sl_leaf hl_v7_2) (lf_cons (sl_leaf hl_v10_2) lf_nil)))) ?_))
 rintro _ _ ⟨rfl, rfl⟩
 refine F.nil (Nrm.seq (Tri.ret ?_))
 cases h
 exact Rtn.body (.cell rfl ta27 ti27 rfl (fun _ hw => box_cells (i := 2) rfl _ hw) .nil) (fun w hw => ⟨_, _, rfl, ⟨v7_2, S7_2, v10_2, S10_2, rfl, hl_v7_2, hl_v10_2, rfl⟩, Sep.pick (is := [1, 0]) rfl rfl hw⟩)


def slices_IndexFunc__3int__3int.l0 (k : Nat) (a0 : List (Int × Int × Int)) (a1 : (Int → Int → Int → Option (Bool))) : Nat → Int → Option ((Unit) ⊕ (Int))
 | 0, _ => none
 | n + 1, x8 => (if (decide (x8 < (a0.length : Int))) = true then (rdl a0 x8).bind fun t14 => (a1 t14.1 t14.2.1 t14.2.2).bind fun t16 => (if t16 = true then some (Sum.inr x8) else slices_IndexFunc__3int__3int.l0 k a0 a1 n (w64 (x8 + 1))) else some (Sum.inl ()))

def slices_IndexFunc__3int__3int.f (k : Nat) (a0 : List (Int × Int × Int)) (a1 : (Int → Int → Int → Option (Bool))) : Option (Int) := (slices_IndexFunc__3int__3int.l0 k a0 a1 k 0).bind fun s => Lr s some fun _ => some (-1)

theorem slices_IndexFunc__3int__3int.ok {k : Nat}  {a0 : List (Int × Int × Int)} {a1 : (Int → Int → Int → Option (Bool))} {r0 : Int} (h : slices_IndexFunc__3int__3int.f k a0 a1 = some r0) (w : World) {va0 : Value} (hr_a0 : Rd w va0 a0) {fi_a1 : FuncId} {ca_a1 : Array Value} (ho_a1 : CallOk Tryz.prog fi_a1) (hf_a1 : ∀ w2, Ext w w2 → ∀ (z0 : Int) (z1 : Int) (z2 : Int) (y : Bool), a1 z0 z1 z2 = some y → Calls Tryz.prog fi_a1 (([.agg [.int .i64 z0, .int .i64 z1, .int .i64 z2].toArray] : List Value) ++ ca_a1.toList).toArray w2 (fun e w3 => e = .returned (.bool y) ∧ Ext w2 w3)) :
  Calls Tryz.prog 230 ([va0, .func (.func fi_a1) #[] ca_a1] : List Value).toArray w (fun e w' => e = .returned (.int .i64 r0) ∧ Ext w w') := by
 unfold slices_IndexFunc__3int__3int.f at h
 have hl_va0 := hr_a0.len
 refine Calls.of_tri (N := 19) Tryz.func230 rfl rfl rfl (Sep.nil (M := noM)) ?_
 refine Tri.seq (Tri.reg (l := [0]) rfl ?_)
 refine F.qn rfl (r_assign rfl) (F.nil (Nrm.seq (Tri.seq (Tri.seq (Tri.reg (l := [0, 1, 2]) rfl ?_)))))
 refine F.qn rfl (r_move rfl) (F.qn rfl (r_len Tryz.underlying24 rfl hl_va0) (F.qn rfl (r_move rfl) (F.nil (Nrm.seq ?_))))
 obtain ⟨s0, hE_1, h⟩ := bind_some h
 refine Tri.block ?_
 refine Tri.only [0, 1, 7, 8] rfl ?_
 refine Tri.pick [] rfl rfl ?_
 refine Tri.rounds (fun n e' C' => ∃ (x8' : Int), slices_IndexFunc__3int__3int.l0 k a0 a1 n x8' = some s0 ∧ e' = [(0, va0), (1, .func (.func fi_a1) #[] ca_a1), (7, .int .i64 (a0.length : Int)), (8, .int .i64 x8')] ∧ C' = Sep w noM []) k ?_ ?_ ?_
 ·exact ⟨0, hE_1, rfl, rfl⟩
 ·rintro _ _ ⟨_, hE_1, _⟩
  rw [slices_IndexFunc__3int__3int.l0.eq_1] at hE_1; cases hE_1
 ·rintro n_1 _ _ ⟨x8, hE_1, rfl, rfl⟩ ih_1
  rw [slices_IndexFunc__3int__3int.l0.eq_2] at hE_1
  refine Tri.seq (Tri.reg (l := [0]) rfl ?_)
  refine F.qn rfl (r_lss rfl rfl) (F.nil (Nrm.seq (Tri.seq (Tri.cond (b := decide (x8 < (a0.length : Int))) rfl (fun g_1 => ?_) (fun g_1 => ?_)))))
  ·replace hE_1 := if_tt g_1 hE_1
   refine Tri.skip (Nrm.seq (Tri.seq (Tri.block ?_)))
   refine Tri.seq (Tri.reg (l := [0, 1]) rfl ?_)
   refine F.qn rfl (r_move rfl) (F.qn rfl (r_assign rfl) (F.nil (Nrm.seq (Tri.seq ?_))))
   obtain ⟨t14, h14, hE_1⟩ := bind_some hE_1
   obtain ⟨t16, h16, hE_1⟩ := bind_some hE_1
   refine Tri.reg (l := [0, 1, 2, 3, 4, 5]) rfl ?_
   iterate 3 refine F.qn rfl (r_move rfl) ?_
   refine F.qn rfl (r_indexAddrS Tryz.underlying24 ti168 rfl hl_va0 rfl (rdl_some h14).1 (rdl_some h14).2.1) (F.qn rfl (r_loadA ta168 ti168 rfl rfl (fun w hw => (Rd.flat ((fun _ hw => hr_a0.sep hw) w hw) (rdl_some h14).2.2))) ?_)
   refine F.qcn rfl (q_callC (xs := _) rfl ho_a1 rfl rfl (fun w hw => hf_a1 w hw.ext _ _ _  _ h16)) ?_
   refine F.nil (Nrm.seq (Tri.cond (b := t16) rfl (fun g_2 => ?_) (fun g_2 => ?_)))
   ·replace hE_1 := if_tt g_2 hE_1
    refine Tri.seq (Tri.reg (l := [0, 1]) rfl ?_)
    refine F.qn rfl (r_move rfl) (F.qn rfl (r_assign rfl) (F.nil (Nrm.seq (Tri.ret ?_))))
    refine Rtn.block ?_
    refine Rtn.then ?_
    refine Rtn.then ?_
    refine Rtn.block ?_
    refine Rtn.then ?_
    cases hE_1
    replace h := Lr_inr h
    cases h
    exact Rtn.body (.tmp rfl .nil) (fun w hw => ⟨rfl, hw.ext⟩)
   ·replace hE_1 := if_ff g_2 hE_1
    refine Tri.skip (Nrm.block ?_)
    refine Nrm.seq (Tri.reg (l := [0, 1]) rfl ?_)
    refine F.qn rfl (r_add rfl rfl) (F.qn rfl (r_move rfl) (F.nil (Nrm.round ?_)))
    refine Rnd.only [0, 1, 7, 8] rfl ?_
    refine Rnd.pick [] rfl rfl ?_
    exact ih_1 _ _ ⟨w64 (x8 + 1), hE_1, rfl, rfl⟩
  ·replace hE_1 := if_ff g_1 hE_1
   refine Tri.exit ?_
   refine Exi.then ?_
   refine Exi.then ?_
   refine Exi.same ?_
   cases hE_1
   replace h := Lr_inl h
   refine Nrm.seq (Tri.seq (Tri.reg (l := [0]) rfl ?_))
   refine F.qn rfl (r_assign rfl) (F.nil (Nrm.seq (Tri.ret ?_)))
   cases h
   exact Rtn.body (.tmp rfl .nil) (fun w hw => ⟨rfl, hw.ext⟩)


def slices_DeleteFunc__3int__3int.l0 (k : Nat) (a1 : (Int → Int → Int → Option (Bool))) : Nat → (List (Int × Int × Int)) → Int → Int → Option ((List (Int × Int × Int)) × Int)
 | 0, _, _, _ => none
 | n + 1, x0, x5, x6 => (if (decide (x6 < (x0.length : Int))) = true then (rdl x0 x6).bind fun t24 => (a1 t24.1 t24.2.1 t24.2.2).bind fun t28 => ((if (!t28) = true then (rdl x0 x5).bind fun t33 => some (x0.set x5.toNat t24, w64 (x5 + 1)) else some (x0, x5))).bind fun (y0, y5) => slices_DeleteFunc__3int__3int.l0 k a1 n y0 y5 (w64 (x6 + 1)) else some (x0, x5))

def slices_DeleteFunc__3int__3int.f (k : Nat) (a0 : List (Int × Int × Int)) (a1 : (Int → Int → Int → Option (Bool))) : Option ((List (Int × Int × Int))) := (slices_IndexFunc__3int__3int.f k a0 a1).bind fun t10 => (if (t10 == (-1)) = true then some a0 else (slices_DeleteFunc__3int__3int.l0 k a1 k a0 t10 (w64 (t10 + 1))).bind fun (x0, x5) => (slc x0 x5 (x0.length : Int)).bind fun t38 => (slc (x0.take (x5 : Int).toNat ++ List.replicate (((x0.length : Int) : Int).toNat - (x5 : Int).toNat) ((0, 0, 0) : Int × Int × Int) ++ x0.drop ((x0.length : Int) : Int).toNat) 0 x5).bind fun t41 => some t41)

theorem slices_DeleteFunc__3int__3int.ok {k : Nat}  {a0 : List (Int × Int × Int)} {a1 : (Int → Int → Int → Option (Bool))} {r0 : List (Int × Int × Int)} (h : slices_DeleteFunc__3int__3int.f k a0 a1 = some r0) (w : World) {va0 : Value} {Sa0 : Nat → Prop} (hl_va0 : SlLen va0 a0.length) {fi_a1 : FuncId} {ca_a1 : Array Value} (ho_a1 : CallOk Tryz.prog fi_a1) (hf_a1 : ∀ w2, Kp (footM [R.sl Sa0 va0 a0]) w w2 → ∀ (z0 : Int) (z1 : Int) (z2 : Int) (y : Bool), a1 z0 z1 z2 = some y → Calls Tryz.prog fi_a1 (([.agg [.int .i64 z0, .int .i64 z1, .int .i64 z2].toArray] : List Value) ++ ca_a1.toList).toArray w2 (fun e w3 => e = .returned (.bool y) ∧ Ext w2 w3)) (hw0 : Sep w (footM [R.sl Sa0 va0 a0]) [R.sl Sa0 va0 a0] w) :
  Calls Tryz.prog 173 ([va0, .func (.func fi_a1) #[] ca_a1] : List Value).toArray w (PostM (footM [R.sl Sa0 va0 a0]) (fun u ns => ∃ (Sr0 : Nat → Prop), SlLen u r0.length ∧ ns = [R.sl Sr0 u r0]) w) := by
 unfold slices_DeleteFunc__3int__3int.f at h
 refine Calls.of_tri (N := 42) Tryz.func173 rfl rfl rfl hw0 ?_
 refine Tri.seq (Tri.reg (l := [0]) rfl ?_)
 refine F.qn rfl (r_assign rfl) (F.nil (Nrm.seq (Tri.seq ?_)))
 obtain ⟨t10, h10, h⟩ := bind_some h
 refine Tri.reg (l := [0, 1, 2, 3]) rfl ?_
 refine F.qn rfl (r_move rfl) (F.qn rfl (r_move rfl) ?_)
 refine F.qcn rfl (q_callF (xs := _) rfl ok230 rfl rfl (fun w hw => slices_IndexFunc__3int__3int.ok h10 w ((rd_sl (i := 0) rfl) w hw) ho_a1 (fun w2 he2 => hf_a1 w2 (hw.kp.trans (he2.kp _))))) ?_
 refine F.qn rfl (r_assign rfl) (F.nil (Nrm.seq (Tri.seq (Tri.seq (Tri.reg (l := [0, 1]) rfl ?_)))))
 refine F.qn rfl (r_move rfl) (F.qn rfl (r_eql rfl rfl) (F.nil (Nrm.seq (Tri.cond (b := t10 == (-1)) rfl (fun g_1 => ?_) (fun g_1 => ?_)))))
 ·replace h := if_tt g_1 h
  refine Tri.seq (Tri.reg (l := [0, 1]) rfl ?_)
  refine F.qn rfl (r_move rfl) (F.qn rfl (r_assign rfl) (F.nil (Nrm.seq (Tri.ret ?_))))
  refine Rtn.then ?_
  cases h
  exact Rtn.body (.tmp rfl .nil) (fun w hw => ⟨_, _, rfl, ⟨Sa0, hl_va0, rfl⟩, Sep.pick (is := [0]) rfl rfl hw⟩)
 ·replace h := if_ff g_1 h
  refine Tri.skip (Nrm.seq (Tri.seq (Tri.seq (Tri.reg (l := [0, 1, 2]) rfl ?_))))
  refine F.qn rfl (r_move rfl) (F.qn rfl (r_add rfl rfl) (F.qn rfl (r_assign rfl) (F.nil (Nrm.seq ?_))))
  obtain ⟨⟨x0, x5⟩, hE_1, h⟩ := bind_some h
  refine Tri.block ?_
  refine Tri.only [0, 1, 5, 6] rfl ?_
  refine Tri.pick [0] rfl rfl ?_
  refine Tri.rounds (fun n e' C' => ∃ (x0' : List (Int × Int × Int)) (x5' : Int) (x6' : Int) (w0 : Value) (T0 : Nat → Prop), slices_DeleteFunc__3int__3int.l0 k a1 n x0' x5' x6' = some (x0, x5) ∧ SlLen w0 (x0').length ∧ e' = [(0, w0), (1, .func (.func fi_a1) #[] ca_a1), (5, .int .i64 x5'), (6, .int .i64 x6')] ∧ C' = Sep w (footM [R.sl Sa0 va0 a0]) [R.sl T0 w0 (x0' : List (Int × Int × Int))]) k ?_ ?_ ?_
  ·exact ⟨a0, t10, w64 (t10 + 1), va0, Sa0, hE_1, hl_va0, rfl, rfl⟩
  ·rintro _ _ ⟨_, _, _, _, _, hE_1, _⟩
   rw [slices_DeleteFunc__3int__3int.l0.eq_1] at hE_1; cases hE_1
  ·rintro n_1 _ _ ⟨x0, x5, x6, w0, T0, hE_1, hl_w0, rfl, rfl⟩ ih_1
   rw [slices_DeleteFunc__3int__3int.l0.eq_2] at hE_1
   refine Tri.seq (Tri.seq (Tri.reg (l := [0, 1, 2, 3]) rfl ?_))
   refine F.qn rfl (r_move rfl) (F.qn rfl (r_move rfl) (F.qn rfl (r_len Tryz.underlying24 rfl hl_w0) (F.qn rfl (r_lss rfl rfl) (F.nil (Nrm.seq (Tri.cond (b := decide (x6 < (x0.length : Int))) rfl (fun g_2 => ?_) (fun g_2 => ?_)))))))
   ·replace hE_1 := if_tt g_2 hE_1
    refine Tri.skip (Nrm.seq (Tri.seq (Tri.block ?_)))
    refine Tri.seq ?_
    obtain ⟨t24, h24, hE_1⟩ := bind_some hE_1
    refine Tri.reg (l := [0, 1, 2, 3, 4, 5]) rfl ?_
    refine F.qn rfl (r_move rfl) (F.qn rfl (r_move rfl) (F.qn rfl (r_indexAddrS Tryz.underlying24 ti168 rfl hl_w0 rfl (rdl_some h24).1 (rdl_some h24).2.1) (F.qn rfl (r_loadA ta168 ti168 rfl rfl (fun w hw => (Rd.flat ((rd_sl (i := 0) rfl) w hw) (rdl_some h24).2.2))) ?_)))
    refine F.mn rfl (m_alloc ti168) ?_
    rintro _ _ ⟨b7_1, rfl, rfl⟩
    refine F.ef0 rfl rfl (wanted_none rfl) (d_storeG0 (i := 0) (cs2 := [.int .i64 t24.1, .int .i64 t24.2.1, .int .i64 t24.2.2]) ti168 rfl rfl rfl rfl rfl (Nat.le_of_ble_eq_true rfl) (lf_cons rfl (lf_cons rfl (lf_cons rfl lf_nil)))) ?_
    rintro _ _ ⟨rfl, rfl⟩
    refine F.nil (Nrm.seq (Tri.seq ?_))
    obtain ⟨t28, h28, hE_1⟩ := bind_some hE_1
    refine Tri.reg (l := [0, 1, 2, 3]) rfl ?_
    refine F.qn rfl (r_move rfl) (F.qn rfl (r_loadA ta168 ti168 rfl rfl (fun w hw => (box_cells (i := 0) rfl w hw))) ?_)
    refine F.qcn rfl (q_callC (xs := _) rfl ho_a1 rfl rfl (fun w hw => hf_a1 w hw.kp _ _ _  _ h28)) ?_
    refine F.qn rfl (r_not rfl) (F.nil (Nrm.seq ?_))
    obtain ⟨⟨y0, y5⟩, hE_2, hE_1⟩ := bind_some hE_1
    refine Tri.cut (fun e' C' => ∃ (v0_1 : Value) (S0_1 : Nat → Prop), SlLen v0_1 (y0).length ∧ e' = [(0, v0_1), (1, .func (.func fi_a1) #[] ca_a1), (5, .int .i64 y5), (6, .int .i64 x6)] ∧ C' = Sep w (footM [R.sl Sa0 va0 a0]) [R.sl S0_1 v0_1 (y0 : List (Int × Int × Int))]) ?_ (fun hj_1 => ?_)
    ·rintro _ _ ⟨v0_1, S0_1, hl_v0_1, rfl, rfl⟩
     refine Nrm.block ?_
     refine Nrm.seq (Tri.reg (l := [0, 1, 2]) rfl ?_)
     refine F.qn rfl (r_move rfl) (F.qn rfl (r_add rfl rfl) (F.qn rfl (r_assign rfl) (F.nil (Nrm.round ?_))))
     refine Rnd.only [0, 1, 5, 6] rfl ?_
     refine Rnd.pick [0] rfl rfl ?_
     exact ih_1 _ _ ⟨y0, y5, w64 (x6 + 1), v0_1, S0_1, hE_1, hl_v0_1, rfl, rfl⟩
    ·refine Tri.cond (b := !t28) rfl (fun g_3 => ?_) (fun g_3 => ?_)
     ·replace hE_2 := if_tt g_3 hE_2
      refine Tri.seq ?_
      obtain ⟨t33, h33, hE_2⟩ := bind_some hE_2
      refine Tri.reg (l := [0, 1, 2, 3, 4]) rfl ?_
      refine F.qn rfl (r_move rfl) (F.qn rfl (r_move rfl) (F.qn rfl (r_loadA ta168 ti168 rfl rfl (fun w hw => (box_cells (i := 0) rfl w hw))) (F.qn rfl (r_indexAddrS Tryz.underlying24 ti168 rfl hl_w0 rfl (rdl_some h33).1 (rdl_some h33).2.1) ?_)))
      refine F.ef0 rfl rfl (wanted_none rfl) (d_storeE (i := 1) (x1 := t24) ti168 rfl rfl rfl (rdl_some h33) rfl) ?_
      rintro _ _ ⟨rfl, rfl⟩
      refine F.nil (Nrm.seq (Tri.reg (l := [0, 1, 2]) rfl ?_))
      refine F.qn rfl (r_move rfl) (F.qn rfl (r_add rfl rfl) (F.qn rfl (r_assign rfl) (F.nil ?_)))
      cases hE_2
      refine Nrm.only [0, 1, 5, 6] rfl ?_
      refine Nrm.pick [1] rfl rfl ?_
      exact hj_1 _ _ ⟨w0, T0, (len_set hl_w0), rfl, rfl⟩
     ·replace hE_2 := if_ff g_3 hE_2
      refine Tri.skip ?_
      cases hE_2
      refine Nrm.only [0, 1, 5, 6] rfl ?_
      refine Nrm.pick [1] rfl rfl ?_
      exact hj_1 _ _ ⟨w0, T0, hl_w0, rfl, rfl⟩
   ·replace hE_1 := if_ff g_2 hE_1
    refine Tri.exit ?_
    refine Exi.then ?_
    refine Exi.then ?_
    refine Exi.same ?_
    cases hE_1
    refine Nrm.seq (Tri.seq ?_)
    obtain ⟨t38, h38, h⟩ := bind_some h
    refine Tri.reg (l := [0, 1, 2, 3]) rfl ?_
    refine F.qn rfl (r_move rfl) (F.qn rfl (r_move rfl) (F.qn rfl (r_sliceL Tryz.underlying24 ti168 rfl (rd_sl (i := 0) rfl) rfl h38) ?_))
    refine F.ef0 rfl rfl (wanted_none rfl) (d_clear (i := 0) (x0 := ((0, 0, 0) : Int × Int × Int)) Tryz.underlying24 ti168 rfl rfl rfl h38) ?_
    rintro _ _ rfl
    refine F.nil (Nrm.seq (Tri.seq ?_))
    obtain ⟨t41, h41, h⟩ := bind_some h
    refine Tri.reg (l := [0, 1, 2, 3]) rfl ?_
    refine F.qn rfl (r_move rfl) (F.qn rfl (r_move rfl) (F.qn rfl (r_sliceH Tryz.underlying24 ti168 rfl (rd_sl (i := 0) rfl) rfl h41) (F.qn rfl (r_assign rfl) (F.nil (Nrm.imp (fun w hw => Sep.resl (i := 0) rfl h41 hw) ?_)))))
    refine Nrm.seq (Tri.ret ?_)
    cases h
    exact Rtn.body (.tmp rfl .nil) (fun w hw => ⟨_, _, rfl, ⟨T0, (slc_len (clr_len hl_w0 (slc_b h38).1 (slc_b h38).2) h41), rfl⟩, Sep.pick (is := [0]) rfl rfl hw⟩)


def impl_withoutNode_1.f (k : Nat) (a0_0 : Int) (a0_1 : Int) (a0_2 : Int) (c0 : Int) : Option (Bool) := ((if (a0_0 == c0) = true then some true else some (a0_1 == c0))).bind fun y3 => some y3

theorem impl_withoutNode_1.ok {k : Nat} {pc0 : Addr} {a0_0 : Int} {a0_1 : Int} {a0_2 : Int} {c0 : Int} {r0 : Bool} (h : impl_withoutNode_1.f k a0_0 a0_1 a0_2 c0 = some r0) (w : World) (hb_c0 : CellsAt w pc0 [.int .i64 c0]) :
  Calls Tryz.prog 174 ([.agg ([.int .i64 a0_0, .int .i64 a0_1, .int .i64 a0_2].toArray), .pointer (some pc0)] : List Value).toArray w (fun e w' => e = .returned (.bool r0) ∧ Ext w w') := by
 unfold impl_withoutNode_1.f at h
 refine Calls.of_tri (N := 14) Tryz.func174 rfl rfl rfl (Sep.nil (M := noM)) ?_
 refine Tri.seq (Tri.reg (l := [0, 1]) rfl ?_)
 refine F.mn rfl (m_boxG rfl rfl) ?_
 rintro _ _ ⟨b2_1, rfl, rfl⟩
 refine F.qn rfl (r_assign rfl) (F.nil (Nrm.seq (Tri.seq ?_)))
 obtain ⟨y3, hE_1, h⟩ := bind_some h
 refine Tri.cut (fun e' C' => e' = [(3, .bool y3)] ∧ C' = Sep w noM []) ?_ (fun hj_1 => ?_)
 ·rintro _ _ ⟨rfl, rfl⟩
  refine Nrm.seq (Tri.ret ?_)
  cases h
  exact Rtn.body (.tmp rfl .nil) (fun w hw => ⟨rfl, hw.ext⟩)
 ·rcases Bool.eq_false_or_eq_true (a0_0 == c0) with g8 | g8
  ·replace hE_1 := if_tt g8 hE_1
   refine Tri.reg (l := [0, 1, 2, 3, 4, 5, 6, 7, 8, 9, 10]) rfl ?_
   refine F.qn rfl (r_indexAddrA Tryz.underlying168 ti3 rfl rfl (by decide) (by decide)) (F.qn rfl (r_load ta3 rfl (fun w hw => cell_1 (box_cells (i := 0) rfl w hw) rfl)) (F.qn rfl (r_load ta3 rfl (fun w hw => cell_0 (hb_c0.sep hw) rfl)) (F.qn rfl (r_eql rfl rfl) (F.qn rfl (r_move rfl) ?_))))
   iterate 4 refine F.skf rfl g8 ?_
   refine F.qn rfl (r_pick rfl rfl g8) (F.qn rfl (r_assign rfl) (F.nil ?_))
   cases hE_1
   refine Nrm.only [3] rfl ?_
   refine Nrm.pick [] rfl rfl ?_
   exact hj_1 _ _ ⟨rfl, rfl⟩
  ·replace hE_1 := if_ff g8 hE_1
   refine Tri.reg (l := [0, 1, 2, 3, 4, 5, 6, 7, 8, 9, 10]) rfl ?_
   refine F.qn rfl (r_indexAddrA Tryz.underlying168 ti3 rfl rfl (by decide) (by decide)) (F.qn rfl (r_load ta3 rfl (fun w hw => cell_1 (box_cells (i := 0) rfl w hw) rfl)) (F.qn rfl (r_load ta3 rfl (fun w hw => cell_0 (hb_c0.sep hw) rfl)) (F.qn rfl (r_eql rfl rfl) (F.qn rfl (r_move rfl) ?_))))
   refine F.qg rfl g8 (r_indexAddrA Tryz.underlying168 ti3 rfl rfl (by decide) (by decide)) (F.qg rfl g8 (r_load ta3 rfl (fun w hw => cell_1 (box_cells (i := 0) rfl w hw) rfl)) (F.qg rfl g8 (r_load ta3 rfl (fun w hw => cell_0 (hb_c0.sep hw) rfl)) (F.qg rfl g8 (r_eql rfl rfl) (F.qn rfl (r_pickf rfl rfl g8) (F.qn rfl (r_assign rfl) (F.nil ?_))))))
   cases hE_1
   refine Nrm.only [3] rfl ?_
   refine Nrm.pick [] rfl rfl ?_
   exact hj_1 _ _ ⟨rfl, rfl⟩


def impl_withoutNode.f (k : Nat) (a0_0 : Int) (a0_1 : List (Int × Int × Int)) (a0_2 : List Int) (a1 : Int) : Option (Int × (List (Int × Int × Int)) × (List Int)) := (impl_own.f k a0_0 a0_1 a0_2).bind fun (t7_1, t7_2, t7_3) => (slices_DeleteFunc__3int__3int.f k t7_2 (fun z0 z1 z2 => impl_withoutNode_1.f k z0 z1 z2 a1)).bind fun t11 => some (t7_1, t11, t7_3)

theorem impl_withoutNode.ok {k : Nat}  {a0_0 : Int} {a0_1 : List (Int × Int × Int)} {a0_2 : List Int} {a1 : Int} {r0 : Int} {r1 : List (Int × Int × Int)} {r2 : List Int} (h : impl_withoutNode.f k a0_0 a0_1 a0_2 a1 = some (r0, r1, r2)) (w : World) {va0_1 : Value} {va0_2 : Value} (hr_a0_1 : Rd w va0_1 a0_1) (hr_a0_2 : Rd w va0_2 a0_2) :
  Calls Tryz.prog 86 ([.agg ([.int .i64 a0_0, va0_1, va0_2].toArray), .int .i64 a1] : List Value).toArray w (Post (fun u ns => ∃ (ur1 : Value) (Sr1 : Nat → Prop) (ur2 : Value) (Sr2 : Nat → Prop), u = .agg [.int .i64 r0, ur1, ur2].toArray ∧ SlLen ur1 r1.length ∧ SlLen ur2 r2.length ∧ ns = [R.sl Sr1 ur1 r1, R.sl Sr2 ur2 r2]) w) := by
 unfold impl_withoutNode.f at h
 have hl_va0_1 := hr_a0_1.len
 have hl_va0_2 := hr_a0_2.len
 refine Calls.of_tri (N := 14) Tryz.func86 rfl rfl rfl (Sep.nil (M := noM)) ?_
 refine Tri.seq (Tri.reg (l := [0, 1, 2]) rfl ?_)
 refine F.mn rfl (m_boxG rfl rfl) ?_
 rintro _ _ ⟨b2_1, rfl, rfl⟩
 refine F.mn rfl (m_boxG rfl rfl) ?_
 rintro _ _ ⟨b3_1, rfl, rfl⟩
 refine F.mn rfl (m_alloc ti27) ?_
 rintro _ _ ⟨b4_1, rfl, rfl⟩
 refine F.nil (Nrm.seq (Tri.seq ?_))
 obtain ⟨⟨t7_1, t7_2, t7_3⟩, h7, h⟩ := bind_some h
 refine Tri.reg (l := [0, 1, 2, 3]) rfl ?_
 refine F.qn rfl (r_loadA ta27 ti27 rfl rfl (fun w hw => (box_cells (i := 2) rfl w hw))) ?_
 refine F.mn rfl (m_callF (xs := _) rfl ok107 rfl rfl (fun w hw => impl_own.ok h7 w ((fun _ hw => hr_a0_1.sep hw) w hw) ((fun _ hw => hr_a0_2.sep hw) w hw))) ?_
 rintro _ _ ⟨_, ⟨v7_1, S7_1, v7_2, S7_2, rfl, hl_v7_1, hl_v7_2, rfl⟩, rfl⟩
 refine F.mn rfl (m_alloc ti27) ?_
 rintro _ _ ⟨b5_1, rfl, rfl⟩
 refine F.ef0 rfl rfl (wanted_none rfl) (d_storeG0 (i := 0) (cs2 := [.int .i64 t7_1, v7_1, v7_2]) ti27 rfl rfl rfl rfl rfl (Nat.le_of_ble_eq_true rfl) (lf_cons rfl (lf_cons (sl_leaf hl_v7_1) (lf_cons (sl_leaf hl_v7_2) lf_nil)))) ?_
 rintro _ _ ⟨rfl, rfl⟩
 refine F.nil (Nrm.seq (Tri.seq ?_))
 obtain ⟨t11, h11, h⟩ := bind_some h
 refine Tri.reg (l := [0, 1, 2, 3, 4, 5]) rfl ?_
 refine F.qn rfl (r_fieldAddr tf27_1 rfl) (F.qn rfl (r_load ta24 rfl (fun w hw => cell_1 (box_cells (i := 0) rfl w hw) rfl)) (F.qn rfl (r_makeFunc rfl) ?_))
 refine F.efn rfl (d_callM (xs := _) (cs := [R.sl S7_1 v7_1 (t7_2 : List (Int × Int × Int))]) (rest := [R.box b5_1 27 [.int .i64 t7_1, v7_1, v7_2], R.sl S7_2 v7_2 (t7_3 : List (Int)), R.box b4_1 27 [.int .i64 0, .slice none 0 0, .slice none 0 0], R.box b3_1 3 [.int .i64 a1], R.box b2_1 27 [.int .i64 a0_0, va0_1, va0_2]]) [1] [0, 2, 3, 4, 5] rfl ok173 rfl rfl rfl rfl (fun w hw => slices_DeleteFunc__3int__3int.ok h11 w hl_v7_1 ok174 (fun w2 he2 z0 z1 z2 y2 hy2 => impl_withoutNode_1.ok hy2 w2 (boxM (i := 3) rfl hw he2)) (Sep.sub hw))) ?_
 rintro v11_1 _ ⟨_, ⟨S11_1, hl_v11_1, rfl⟩, rfl⟩
 refine F.qn rfl (r_fieldAddr tf27_1 rfl) ?_
 refine F.ef0 rfl rfl (wanted_none rfl) (d_storeG1 (i := 1) (cs2 := [v11_1]) ti24 rfl rfl rfl (sl_cells hl_v11_1) rfl (Nat.le_of_ble_eq_true rfl) (lf_cons (sl_leaf hl_v11_1) lf_nil)) ?_
 rintro _ _ ⟨rfl, rfl⟩
 refine F.nil (Nrm.seq (Tri.seq (Tri.reg (l := [0, 1]) rfl ?_)))
 refine F.qn rfl (r_loadA ta27 ti27 rfl rfl (fun w hw => (box_cells (i := 1) rfl w hw))) ?_
 refine F.ef0 rfl rfl (wanted_none rfl) (d_storeG0 (i := 3) (cs2 := [.int .i64 t7_1, v11_1, v7_2]) ti27 rfl rfl rfl rfl rfl (Nat.le_of_ble_eq_true rfl) (lf_cons rfl (lf_cons (sl_leaf hl_v11_1) (lf_cons (sl_leaf hl_v7_2) lf_nil)))) ?_
 rintro _ _ ⟨rfl, rfl⟩
 refine F.nil (Nrm.seq (Tri.ret ?_))
 cases h
 exact Rtn.body (.cell rfl ta27 ti27 rfl (fun _ hw => box_cells (i := 3) rfl _ hw) .nil) (fun w hw => ⟨_, _, rfl, ⟨v11_1, S11_1, v7_2, S7_2, rfl, hl_v11_1, hl_v7_2, rfl⟩, Sep.pick (is := [0, 2]) rfl rfl hw⟩)


def impl_RequiredNodes.l0 (k : Nat) (a0_0 : Int) (a0_1 : List (Int × Int × Int)) (a0_2 : List Int) (a1 : Int) : Nat → (List (Int)) → Int → Option ((List (Int)))
 | 0, _, _ => none
 | n + 1, x6, x7 => (if (decide (x7 < (w64 (a0_0 - 1)))) = true then (impl_withoutNode.f k a0_0 a0_1 a0_2 x7).bind fun (t22_1, t22_2, t22_3) => (impl_canWin.f k t22_1 t22_2 t22_3 a1).bind fun t24 => ((if (!t24) = true then if (x6 ++ ([x7] : List (Int))).length < 1099511627776 then some (x6 ++ ([x7] : List (Int))) else none else some x6)).bind fun y6 => impl_RequiredNodes.l0 k a0_0 a0_1 a0_2 a1 n y6 (w64 (x7 + 1)) else some x6)

def impl_RequiredNodes.f (k : Nat) (a0_0 : Int) (a0_1 : List (Int × Int × Int)) (a0_2 : List Int) (a1 : Int) : Option ((List Int) × Bool) := (impl_won.f k a0_0 a0_1 a0_2 a1).bind fun t10 => (if (!t10) = true then some ([], false) else (impl_RequiredNodes.l0 k a0_0 a0_1 a0_2 a1 k ([] : List (Int)) 1).bind fun x6 => some (x6, true))

theorem impl_RequiredNodes.ok {k : Nat}  {a0_0 : Int} {a0_1 : List (Int × Int × Int)} {a0_2 : List Int} {a1 : Int} {r0 : List Int} {r1 : Bool} (h : impl_RequiredNodes.f k a0_0 a0_1 a0_2 a1 = some (r0, r1)) (w : World) {va0_1 : Value} {va0_2 : Value} (hr_a0_1 : Rd w va0_1 a0_1) (hr_a0_2 : Rd w va0_2 a0_2) :
  Calls Tryz.prog 9 ([.agg ([.int .i64 a0_0, va0_1, va0_2].toArray), .int .i64 a1] : List Value).toArray w (Post (fun u ns => ∃ (ur0 : Value) (Sr0 : Nat → Prop), u = .tuple #[ur0, .bool r1] ∧ SlLen ur0 r0.length ∧ ns = [R.sl Sr0 ur0 r0]) w) := by
 unfold impl_RequiredNodes.f at h
 have hl_va0_1 := hr_a0_1.len
 have hl_va0_2 := hr_a0_2.len
 refine Calls.of_tri (N := 31) Tryz.func9 rfl rfl rfl (Sep.nil (M := noM)) ?_
 refine Tri.seq (Tri.reg (l := [0, 1, 2]) rfl ?_)
 refine F.mn rfl (m_boxG rfl rfl) ?_
 rintro _ _ ⟨b2_1, rfl, rfl⟩
 refine F.qn rfl (r_assign rfl) (F.qn rfl (r_assign rfl) (F.nil (Nrm.seq (Tri.seq (Tri.seq ?_)))))
 obtain ⟨t10, h10, h⟩ := bind_some h
 refine Tri.reg (l := [0, 1, 2, 3]) rfl ?_
 refine F.qn rfl (r_loadA ta27 ti27 rfl rfl (fun w hw => (box_cells (i := 0) rfl w hw))) (F.qn rfl (r_move rfl) ?_)
 refine F.qcn rfl (q_callF (xs := _) rfl ok84 rfl rfl (fun w hw => impl_won.ok h10 w ((fun _ hw => hr_a0_1.sep hw) w hw) ((fun _ hw => hr_a0_2.sep hw) w hw))) ?_
 refine F.qn rfl (r_not rfl) (F.nil (Nrm.seq (Tri.cond (b := !t10) rfl (fun g_1 => ?_) (fun g_1 => ?_))))
 ·replace h := if_tt g_1 h
  refine Tri.seq (Tri.reg (l := [0, 1]) rfl ?_)
  refine F.qn rfl (r_assign rfl) (F.qn rfl (r_assign rfl) (F.nil (Nrm.seq (Tri.ret ?_))))
  refine Rtn.then ?_
  cases h
  exact Rtn.body (.tmp rfl (.tmp rfl .nil)) (fun w hw => ⟨_, _, rfl, ⟨.slice none 0 0, fun _ => False, rfl, len_nil, rfl⟩, Sep.pick (is := [0]) rfl rfl hw.pushNil⟩)
 ·replace h := if_ff g_1 h
  refine Tri.skip (Nrm.seq (Tri.seq (Tri.reg (l := [0, 1]) rfl ?_)))
  refine F.mn rfl (m_build0 (α := Int) Tryz.underlying25 ti3) ?_
  rintro v12_1 _ ⟨S12_1, hl_v12_1, rfl⟩
  refine F.qn rfl (r_assign rfl) (F.nil (Nrm.seq (Tri.seq (Tri.seq (Tri.reg (l := [0]) rfl ?_)))))
  refine F.qn rfl (r_assign rfl) (F.nil (Nrm.seq ?_))
  obtain ⟨x6, hE_1, h⟩ := bind_some h
  refine Tri.block ?_
  refine Tri.only [1, 2, 6, 7] rfl ?_
  refine Tri.pick [1, 0] rfl rfl ?_
  refine Tri.rounds (fun n e' C' => ∃ (x6' : List (Int)) (x7' : Int) (w6 : Value) (T6 : Nat → Prop), impl_RequiredNodes.l0 k a0_0 a0_1 a0_2 a1 n x6' x7' = some x6 ∧ SlLen w6 (x6').length ∧ e' = [(1, .int .i64 a1), (2, .pointer (some ⟨b2_1, 0, none⟩)), (6, w6), (7, .int .i64 x7')] ∧ C' = Sep w noM [R.box b2_1 27 [.int .i64 a0_0, va0_1, va0_2], R.sl T6 w6 (x6' : List (Int))]) k ?_ ?_ ?_
  ·exact ⟨([] : List (Int)), 1, v12_1, S12_1, hE_1, hl_v12_1, rfl, rfl⟩
  ·rintro _ _ ⟨_, _, _, _, hE_1, _⟩
   rw [impl_RequiredNodes.l0.eq_1] at hE_1; cases hE_1
  ·rintro n_1 _ _ ⟨x6, x7, w6, T6, hE_1, hl_w6, rfl, rfl⟩ ih_1
   rw [impl_RequiredNodes.l0.eq_2] at hE_1
   refine Tri.seq (Tri.seq (Tri.reg (l := [0, 1, 2, 3, 4]) rfl ?_))
   refine F.qn rfl (r_move rfl) (F.qn rfl (r_fieldAddr tf27_0 rfl) (F.qn rfl (r_load ta3 rfl (fun w hw => cell_1 (box_cells (i := 0) rfl w hw) rfl)) (F.qn rfl (r_sub rfl rfl) (F.qn rfl (r_lss rfl rfl) (F.nil (Nrm.seq (Tri.cond (b := decide (x7 < (w64 (a0_0 - 1)))) rfl (fun g_2 => ?_) (fun g_2 => ?_))))))))
   ·replace hE_1 := if_tt g_2 hE_1
    refine Tri.skip (Nrm.seq (Tri.seq (Tri.block ?_)))
    refine Tri.seq ?_
    obtain ⟨⟨t22_1, t22_2, t22_3⟩, h22, hE_1⟩ := bind_some hE_1
    obtain ⟨t24, h24, hE_1⟩ := bind_some hE_1
    refine Tri.reg (l := [0, 1, 2, 3, 4, 5]) rfl ?_
    refine F.qn rfl (r_loadA ta27 ti27 rfl rfl (fun w hw => (box_cells (i := 0) rfl w hw))) (F.qn rfl (r_move rfl) ?_)
    refine F.mn rfl (m_callF (xs := _) rfl ok86 rfl rfl (fun w hw => impl_withoutNode.ok h22 w ((fun _ hw => hr_a0_1.sep hw) w hw) ((fun _ hw => hr_a0_2.sep hw) w hw))) ?_
    rintro _ _ ⟨_, ⟨v22_1, S22_1, v22_2, S22_2, rfl, hl_v22_1, hl_v22_2, rfl⟩, rfl⟩
    refine F.qn rfl (r_move rfl) ?_
    refine F.qcn rfl (q_callF (xs := _) rfl ok85 rfl rfl (fun w hw => impl_canWin.ok h24 w ((rd_sl (i := 0) rfl) w hw) ((rd_sl (i := 1) rfl) w hw))) ?_
    refine F.qn rfl (r_not rfl) (F.nil (Nrm.seq ?_))
    obtain ⟨y6, hE_2, hE_1⟩ := bind_some hE_1
    refine Tri.cut (fun e' C' => ∃ (v6_1 : Value) (S6_1 : Nat → Prop), SlLen v6_1 (y6).length ∧ e' = [(1, .int .i64 a1), (2, .pointer (some ⟨b2_1, 0, none⟩)), (6, v6_1), (7, .int .i64 x7)] ∧ C' = Sep w noM [R.box b2_1 27 [.int .i64 a0_0, va0_1, va0_2], R.sl S6_1 v6_1 (y6 : List (Int))]) ?_ (fun hj_1 => ?_)
    ·rintro _ _ ⟨v6_1, S6_1, hl_v6_1, rfl, rfl⟩
     refine Nrm.block ?_
     refine Nrm.seq (Tri.reg (l := [0, 1, 2]) rfl ?_)
     refine F.qn rfl (r_move rfl) (F.qn rfl (r_add rfl rfl) (F.qn rfl (r_assign rfl) (F.nil (Nrm.round ?_))))
     refine Rnd.only [1, 2, 6, 7] rfl ?_
     refine Rnd.pick [0, 1] rfl rfl ?_
     exact ih_1 _ _ ⟨y6, w64 (x7 + 1), v6_1, S6_1, hE_1, hl_v6_1, rfl, rfl⟩
    ·refine Tri.cond (b := !t24) rfl (fun g_3 => ?_) (fun g_3 => ?_)
     ·replace hE_2 := if_tt g_3 hE_2
      obtain ⟨hs29, hE_2⟩ := ck hE_2
      refine Tri.reg (l := [0, 1, 2, 3, 4]) rfl ?_
      refine F.qn rfl (r_move rfl) (F.qn rfl (r_move rfl) ?_)
      refine F.mn rfl (m_buildF (l := ([x7] : List (Int))) Tryz.underlying25 ti3 rfl rfl rfl rfl rfl) ?_
      rintro v28_1 _ ⟨S28_1, hl_v28_1, rfl⟩
      refine F.efn rfl (d_append (i := 4) Tryz.underlying25 Tryz.underlying25 ti3 rfl (by decide) rfl rfl rfl (rd_sl (i := 0) rfl) hs29) ?_
      rintro v29_1 _ ⟨S29_1, rfl, hl_v29_1⟩
      refine F.qn rfl (r_assign rfl) (F.nil ?_)
      cases hE_2
      refine Nrm.only [1, 2, 6, 7] rfl ?_
      refine Nrm.pick [3, 4] rfl rfl ?_
      exact hj_1 _ _ ⟨v29_1, S29_1, hl_v29_1, rfl, rfl⟩
     ·replace hE_2 := if_ff g_3 hE_2
      refine Tri.skip ?_
      cases hE_2
      refine Nrm.only [1, 2, 6, 7] rfl ?_
      refine Nrm.pick [2, 3] rfl rfl ?_
      exact hj_1 _ _ ⟨w6, T6, hl_w6, rfl, rfl⟩
   ·replace hE_1 := if_ff g_2 hE_1
    refine Tri.exit ?_
    refine Exi.then ?_
    refine Exi.then ?_
    refine Exi.same ?_
    cases hE_1
    refine Nrm.seq (Tri.seq (Tri.reg (l := [0, 1, 2]) rfl ?_))
    refine F.qn rfl (r_move rfl) (F.qn rfl (r_assign rfl) (F.qn rfl (r_assign rfl) (F.nil (Nrm.seq (Tri.ret ?_)))))
    cases h
    exact Rtn.body (.tmp rfl (.tmp rfl .nil)) (fun w hw => ⟨_, _, rfl, ⟨w6, T6, rfl, hl_w6, rfl⟩, Sep.pick (is := [1]) rfl rfl hw⟩)


def spec_l1Has.l0 (k : Nat) (a0 : List Int) (a1 : Int) : Nat → Int → Option ((Unit) ⊕ (Bool))
 | 0, _ => none
 | n + 1, x5 => (if (decide (x5 < (a0.length : Int))) = true then (rdl a0 x5).bind fun t14 => (if (t14 == a1) = true then some (Sum.inr true) else spec_l1Has.l0 k a0 a1 n (w64 (x5 + 1))) else some (Sum.inl ()))

def spec_l1Has.f (k : Nat) (a0 : List Int) (a1 : Int) : Option (Bool) := (spec_l1Has.l0 k a0 a1 k 0).bind fun s => Lr s some fun _ => some false

theorem spec_l1Has.ok {k : Nat}  {a0 : List Int} {a1 : Int} {r0 : Bool} (h : spec_l1Has.f k a0 a1 = some r0) (w : World) {va0 : Value} (hr_a0 : Rd w va0 a0) :
  Calls Tryz.prog 149 ([va0, .int .i64 a1] : List Value).toArray w (fun e w' => e = .returned (.bool r0) ∧ Ext w w') := by
 unfold spec_l1Has.f at h
 have hl_va0 := hr_a0.len
 refine Calls.of_tri (N := 18) Tryz.func149 rfl rfl rfl (Sep.nil (M := noM)) ?_
 refine Tri.seq (Tri.reg (l := [0]) rfl ?_)
 refine F.qn rfl (r_assign rfl) (F.nil (Nrm.seq (Tri.seq (Tri.seq (Tri.reg (l := [0]) rfl ?_)))))
 refine F.qn rfl (r_assign rfl) (F.nil (Nrm.seq ?_))
 obtain ⟨s0, hE_1, h⟩ := bind_some h
 refine Tri.block ?_
 refine Tri.only [0, 1, 5] rfl ?_
 refine Tri.pick [] rfl rfl ?_
 refine Tri.rounds (fun n e' C' => ∃ (x5' : Int), spec_l1Has.l0 k a0 a1 n x5' = some s0 ∧ e' = [(0, va0), (1, .int .i64 a1), (5, .int .i64 x5')] ∧ C' = Sep w noM []) k ?_ ?_ ?_
 ·exact ⟨0, hE_1, rfl, rfl⟩
 ·rintro _ _ ⟨_, hE_1, _⟩
  rw [spec_l1Has.l0.eq_1] at hE_1; cases hE_1
 ·rintro n_1 _ _ ⟨x5, hE_1, rfl, rfl⟩ ih_1
  rw [spec_l1Has.l0.eq_2] at hE_1
  refine Tri.seq (Tri.seq (Tri.reg (l := [0, 1, 2, 3]) rfl ?_))
  refine F.qn rfl (r_move rfl) (F.qn rfl (r_move rfl) (F.qn rfl (r_len Tryz.underlying25 rfl hl_va0) (F.qn rfl (r_lss rfl rfl) (F.nil (Nrm.seq (Tri.cond (b := decide (x5 < (a0.length : Int))) rfl (fun g_1 => ?_) (fun g_1 => ?_)))))))
  ·replace hE_1 := if_tt g_1 hE_1
   refine Tri.skip (Nrm.seq (Tri.seq (Tri.block ?_)))
   refine Tri.seq ?_
   obtain ⟨t14, h14, hE_1⟩ := bind_some hE_1
   refine Tri.reg (l := [0, 1, 2, 3, 4, 5]) rfl ?_
   refine F.qn rfl (r_move rfl) (F.qn rfl (r_move rfl) (F.qn rfl (r_indexAddrS Tryz.underlying25 ti3 rfl hl_va0 rfl (rdl_some h14).1 (rdl_some h14).2.1) (F.qn rfl (r_load ta3 rfl (fun w hw => cell_0 (Rd.flat ((fun _ hw => hr_a0.sep hw) w hw) (rdl_some h14).2.2) rfl)) (F.qn rfl (r_move rfl) (F.qn rfl (r_eql rfl rfl) (F.nil (Nrm.seq (Tri.cond (b := t14 == a1) rfl (fun g_2 => ?_) (fun g_2 => ?_)))))))))
   ·replace hE_1 := if_tt g_2 hE_1
    refine Tri.seq (Tri.reg (l := [0]) rfl ?_)
    refine F.qn rfl (r_assign rfl) (F.nil (Nrm.seq (Tri.ret ?_)))
    refine Rtn.block ?_
    refine Rtn.then ?_
    refine Rtn.then ?_
    refine Rtn.block ?_
    refine Rtn.then ?_
    cases hE_1
    replace h := Lr_inr h
    cases h
    exact Rtn.body (.tmp rfl .nil) (fun w hw => ⟨rfl, hw.ext⟩)
   ·replace hE_1 := if_ff g_2 hE_1
    refine Tri.skip (Nrm.block ?_)
    refine Nrm.seq (Tri.reg (l := [0, 1, 2]) rfl ?_)
    refine F.qn rfl (r_move rfl) (F.qn rfl (r_add rfl rfl) (F.qn rfl (r_assign rfl) (F.nil (Nrm.round ?_))))
    refine Rnd.only [0, 1, 5] rfl ?_
    refine Rnd.pick [] rfl rfl ?_
    exact ih_1 _ _ ⟨w64 (x5 + 1), hE_1, rfl, rfl⟩
  ·replace hE_1 := if_ff g_1 hE_1
   refine Tri.exit ?_
   refine Exi.then ?_
   refine Exi.then ?_
   refine Exi.same ?_
   cases hE_1
   replace h := Lr_inl h
   refine Nrm.seq (Tri.seq (Tri.reg (l := [0]) rfl ?_))
   refine F.qn rfl (r_assign rfl) (F.nil (Nrm.seq (Tri.ret ?_)))
   cases h
   exact Rtn.body (.tmp rfl .nil) (fun w hw => ⟨rfl, hw.ext⟩)


def spec_l2Has.f (k : Nat) (a0 : Int) (a1 : Int) : Option (Bool) := some ((band a0 a1) == a1)

theorem spec_l2Has.ok {k : Nat}  {a0 : Int} {a1 : Int} {r0 : Bool} (h : spec_l2Has.f k a0 a1 = some r0) (w : World) :
  Calls Tryz.prog 216 ([.int .i64 a0, .int .i64 a1] : List Value).toArray w (fun e w' => e = .returned (.bool r0) ∧ Ext w w') := by
 unfold spec_l2Has.f at h
 refine Calls.of_tri (N := 10) Tryz.func216 rfl rfl rfl (Sep.nil (M := noM)) ?_
 refine Tri.seq (Tri.reg (l := [0]) rfl ?_)
 refine F.qn rfl (r_assign rfl) (F.nil (Nrm.seq (Tri.seq (Tri.reg (l := [0, 1, 2, 3, 4, 5]) rfl ?_))))
 refine F.qn rfl (r_move rfl) (F.qn rfl (r_move rfl) (F.qn rfl (r_and rfl rfl) (F.qn rfl (r_move rfl) (F.qn rfl (r_eql rfl rfl) (F.qn rfl (r_assign rfl) (F.nil (Nrm.seq (Tri.ret ?_))))))))
 cases h
 exact Rtn.body (.tmp rfl .nil) (fun w hw => ⟨rfl, hw.ext⟩)


def spec_l1Put.l0 (k : Nat) (a0 : List Int) (a1 : Int) : Nat → Int → Option (Int)
 | 0, _ => none
 | n + 1, x5 => ((if (decide (x5 < (a0.length : Int))) = true then (rdl a0 x5).bind fun t13 => some (decide (t13 < a1)) else some false)).bind fun y17 => (if y17 = true then spec_l1Put.l0 k a0 a1 n (w64 (x5 + 1)) else some x5)

def spec_l1Put.f (k : Nat) (a0 : List Int) (a1 : Int) : Option ((List Int)) := (spec_l1Put.l0 k a0 a1 k 0).bind fun x5 => ((if (decide (x5 < (a0.length : Int))) = true then (rdl a0 x5).bind fun t27 => some (t27 == a1) else some false)).bind fun y31 => (if y31 = true then some a0 else ((slc a0 0 x5).bind fun t36 => (slc a0 x5 (a0.length : Int)).bind fun t43 => if (([] : List (Int)) ++ t36).length < 1099511627776 then if ((([] : List (Int)) ++ t36) ++ ([a1] : List (Int))).length < 1099511627776 then if (((([] : List (Int)) ++ t36) ++ ([a1] : List (Int))) ++ t43).length < 1099511627776 then some (((([] : List (Int)) ++ t36) ++ ([a1] : List (Int))) ++ t43) else none else none else none).bind fun y4 => some y4)

theorem spec_l1Put.ok {k : Nat}  {a0 : List Int} {a1 : Int} {r0 : List Int} (h : spec_l1Put.f k a0 a1 = some r0) (w : World) {va0 : Value} {Sa0 : Nat → Prop} (hl_va0 : SlLen va0 a0.length) (hw0 : Sep w (footM [R.sl Sa0 va0 a0]) [R.sl Sa0 va0 a0] w) :
  Calls Tryz.prog 244 ([va0, .int .i64 a1] : List Value).toArray w (PostM (footM [R.sl Sa0 va0 a0]) (fun u ns => ∃ (Sr0 : Nat → Prop), SlLen u r0.length ∧ ns = [R.sl Sr0 u r0]) w) := by
 unfold spec_l1Put.f at h
 refine Calls.of_tri (N := 45) Tryz.func244 rfl rfl rfl hw0 ?_
 refine Tri.seq (Tri.reg (l := [0]) rfl ?_)
 refine F.qn rfl (r_assign rfl) (F.nil (Nrm.seq (Tri.seq (Tri.reg (l := [0]) rfl ?_))))
 refine F.qn rfl (r_assign rfl) (F.nil (Nrm.seq (Tri.seq ?_)))
 obtain ⟨x5, hE_1, h⟩ := bind_some h
 refine Tri.block ?_
 refine Tri.only [0, 1, 5] rfl ?_
 refine Tri.pick [0] rfl rfl ?_
 refine Tri.rounds (fun n e' C' => ∃ (x5' : Int), spec_l1Put.l0 k a0 a1 n x5' = some x5 ∧ e' = [(0, va0), (1, .int .i64 a1), (5, .int .i64 x5')] ∧ C' = Sep w (footM [R.sl Sa0 va0 a0]) [R.sl Sa0 va0 (a0 : List (Int))]) k ?_ ?_ ?_
 ·exact ⟨0, hE_1, rfl, rfl⟩
 ·rintro _ _ ⟨_, hE_1, _⟩
  rw [spec_l1Put.l0.eq_1] at hE_1; cases hE_1
 ·rintro n_1 _ _ ⟨x5, hE_1, rfl, rfl⟩ ih_1
  rw [spec_l1Put.l0.eq_2] at hE_1
  refine Tri.seq (Tri.seq ?_)
  obtain ⟨y17, hE_2, hE_1⟩ := bind_some hE_1
  refine Tri.cut (fun e' C' => e' = [(0, va0), (1, .int .i64 a1), (5, .int .i64 x5), (17, .bool y17)] ∧ C' = Sep w (footM [R.sl Sa0 va0 a0]) [R.sl Sa0 va0 (a0 : List (Int))]) ?_ (fun hj_1 => ?_)
  ·rintro _ _ ⟨rfl, rfl⟩
   refine Nrm.seq (Tri.cond (b := y17) rfl (fun g_1 => ?_) (fun g_1 => ?_))
   ·replace hE_1 := if_tt g_1 hE_1
    refine Tri.skip (Nrm.seq (Tri.block ?_))
    refine Tri.reg (l := [0, 1, 2]) rfl ?_
    refine F.qn rfl (r_move rfl) (F.qn rfl (r_add rfl rfl) (F.qn rfl (r_assign rfl) (F.nil (Nrm.block ?_))))
    refine Nrm.round ?_
    refine Rnd.only [0, 1, 5] rfl ?_
    refine Rnd.pick [0] rfl rfl ?_
    exact ih_1 _ _ ⟨w64 (x5 + 1), hE_1, rfl, rfl⟩
   ·replace hE_1 := if_ff g_1 hE_1
    refine Tri.exit ?_
    refine Exi.then ?_
    refine Exi.then ?_
    refine Exi.same ?_
    cases hE_1
    refine Nrm.seq (Tri.seq (Tri.seq ?_))
    obtain ⟨y31, hE_3, h⟩ := bind_some h
    refine Tri.cut (fun e' C' => e' = [(0, va0), (1, .int .i64 a1), (5, .int .i64 x5), (31, .bool y31)] ∧ C' = Sep w (footM [R.sl Sa0 va0 a0]) [R.sl Sa0 va0 (a0 : List (Int))]) ?_ (fun hj_2 => ?_)
    ·rintro _ _ ⟨rfl, rfl⟩
     refine Nrm.seq (Tri.cond (b := y31) rfl (fun g_2 => ?_) (fun g_2 => ?_))
     ·replace h := if_tt g_2 h
      refine Tri.seq (Tri.reg (l := [0, 1]) rfl ?_)
      refine F.qn rfl (r_move rfl) (F.qn rfl (r_assign rfl) (F.nil (Nrm.seq (Tri.ret ?_))))
      refine Rtn.then ?_
      cases h
      exact Rtn.body (.tmp rfl .nil) (fun w hw => ⟨_, _, rfl, ⟨Sa0, hl_va0, rfl⟩, Sep.pick (is := [0]) rfl rfl hw⟩)
     ·replace h := if_ff g_2 h
      refine Tri.skip (Nrm.seq (Tri.seq ?_))
      obtain ⟨y4, hE_4, h⟩ := bind_some h
      refine Tri.cut (fun e' C' => ∃ (v4_1 : Value) (S4_1 : Nat → Prop), SlLen v4_1 (y4).length ∧ e' = [(4, v4_1)] ∧ C' = Sep w (footM [R.sl Sa0 va0 a0]) [R.sl S4_1 v4_1 (y4 : List (Int))]) ?_ (fun hj_3 => ?_)
      ·rintro _ _ ⟨v4_1, S4_1, hl_v4_1, rfl, rfl⟩
       refine Nrm.seq (Tri.ret ?_)
       cases h
       exact Rtn.body (.tmp rfl .nil) (fun w hw => ⟨_, _, rfl, ⟨S4_1, hl_v4_1, rfl⟩, Sep.pick (is := [0]) rfl rfl hw⟩)
      ·obtain ⟨t36, h36, hE_4⟩ := bind_some hE_4
       obtain ⟨t43, h43, hE_4⟩ := bind_some hE_4
       obtain ⟨hs37, hE_4⟩ := ck hE_4
       obtain ⟨hs40, hE_4⟩ := ck hE_4
       obtain ⟨hs44, hE_4⟩ := ck hE_4
       refine Tri.drawT mixedT Sep.up [1, 2, 3, 5, 8, 9, 10, 0, 4, 6, 7] [11, 12] (.q 1 (.q 2 (.q 3 (.q 5 (.q 8 (.q 9 (.q 10 (.alt 0 (.alt 4 (.alt 6 (.alt 7 .nil .stop) .stop) (.alt 6 (.alt 4 (.alt 7 .nil .stop) .stop) .stop)) (.alt 6 (.alt 0 (.alt 4 (.alt 7 .nil .stop) .stop) .stop) .stop))))))))) (by kernel_rfl) ?_
       refine T.q rfl rfl rfl (wanted_none rfl) (r_move rfl) ?_
       refine T.q rfl rfl rfl (wanted_none rfl) (r_move rfl) ?_
       refine T.q rfl rfl rfl (wanted_none rfl) (r_sliceH Tryz.underlying25 ti3 rfl (rd_sl (i := 0) rfl) rfl h36) ?_
       iterate 3 refine T.q rfl rfl rfl (wanted_none rfl) (r_move rfl) ?_
       refine T.q rfl rfl rfl (wanted_none rfl) (r_sliceL Tryz.underlying25 ti3 rfl (rd_sl (i := 0) rfl) rfl h43) ?_
       refine T.ef rfl rfl rfl (wanted_none rfl) (Makes.does (m_build0 (α := Int) Tryz.underlying25 ti3)) (by rintro v33_2 _ ⟨S33_2, hl_v33_2, rfl⟩; exact upd rfl [1] rfl rfl) ?_ ?_
       ·rintro v33_2 _ ⟨S33_2, hl_v33_2, rfl⟩
        refine T.ef rfl rfl rfl (wanted_none rfl) (d_append (i := 0) Tryz.underlying25 Tryz.underlying25 ti3 rfl (by decide) rfl rfl rfl (fun w hw => rd_slc ((rd_sl (i := 1) rfl) w hw) h36) hs37) (by rintro v37_2 _ ⟨S37_2, rfl, hl_v37_2⟩; exact upd rfl [1] rfl rfl) ?_ ?_
        ·rintro v37_2 _ ⟨S37_2, rfl, hl_v37_2⟩
         refine T.ef rfl rfl rfl (wanted_none rfl) (Makes.does (m_buildF (l := ([a1] : List (Int))) Tryz.underlying25 ti3 rfl rfl rfl rfl rfl)) (by rintro v39_2 _ ⟨S39_2, hl_v39_2, rfl⟩; exact upd rfl [2] rfl rfl) ?_ ?_
         ·rintro v39_2 _ ⟨S39_2, hl_v39_2, rfl⟩
          refine T.ef rfl rfl rfl (wanted_none rfl) (d_append (i := 1) Tryz.underlying25 Tryz.underlying25 ti3 rfl (by decide) rfl rfl rfl (rd_sl (i := 0) rfl) hs40) (by rintro v40_2 _ ⟨S40_2, rfl, hl_v40_2⟩; exact upd rfl [2] rfl rfl) ?_ ?_
          ·rintro v40_2 _ ⟨S40_2, rfl, hl_v40_2⟩
           refine T.nil ?_
           refine F.efn rfl (d_append (i := 1) Tryz.underlying25 Tryz.underlying25 ti3 rfl (by decide) rfl rfl rfl (fun w hw => rd_slc ((rd_sl (i := 2) rfl) w hw) h43) hs44) ?_
           rintro v44_2 _ ⟨S44_2, rfl, hl_v44_2⟩
           refine F.qn rfl (r_assign rfl) (F.nil ?_)
           cases hE_4
           refine Nrm.only [4] rfl ?_
           refine Nrm.pick [1] rfl rfl ?_
           exact hj_3 _ _ ⟨v44_2, S44_2, hl_v44_2, rfl, rfl⟩
          exact T.stop
         exact T.stop
        ·refine T.ef rfl rfl rfl (wanted_none rfl) (Makes.does (m_buildF (l := ([a1] : List (Int))) Tryz.underlying25 ti3 rfl rfl rfl rfl rfl)) (by rintro v39_3 _ ⟨S39_3, hl_v39_3, rfl⟩; exact upd rfl [2] rfl rfl) ?_ ?_
         ·rintro v39_3 _ ⟨S39_3, hl_v39_3, rfl⟩
          refine T.ef rfl rfl rfl (wanted_none rfl) (d_append (i := 1) Tryz.underlying25 Tryz.underlying25 ti3 rfl (by decide) rfl rfl rfl (fun w hw => rd_slc ((rd_sl (i := 2) rfl) w hw) h36) hs37) (by rintro v37_3 _ ⟨S37_3, rfl, hl_v37_3⟩; exact upd rfl [2] rfl rfl) ?_ ?_
          ·rintro v37_3 _ ⟨S37_3, rfl, hl_v37_3⟩
           refine T.ef rfl rfl rfl (wanted_none rfl) (d_append (i := 1) Tryz.underlying25 Tryz.underlying25 ti3 rfl (by decide) rfl rfl rfl (rd_sl (i := 0) rfl) hs40) (by rintro v40_3 _ ⟨S40_3, rfl, hl_v40_3⟩; exact upd rfl [2] rfl rfl) ?_ ?_
           ·rintro v40_3 _ ⟨S40_3, rfl, hl_v40_3⟩
            refine T.nil ?_
            refine F.efn rfl (d_append (i := 1) Tryz.underlying25 Tryz.underlying25 ti3 rfl (by decide) rfl rfl rfl (fun w hw => rd_slc ((rd_sl (i := 2) rfl) w hw) h43) hs44) ?_
            rintro v44_3 _ ⟨S44_3, rfl, hl_v44_3⟩
            refine F.qn rfl (r_assign rfl) (F.nil ?_)
            cases hE_4
            refine Nrm.only [4] rfl ?_
            refine Nrm.pick [1] rfl rfl ?_
            exact hj_3 _ _ ⟨v44_3, S44_3, hl_v44_3, rfl, rfl⟩
           exact T.stop
          exact T.stop
         exact T.stop
       ·refine T.ef rfl rfl rfl (wanted_none rfl) (Makes.does (m_buildF (l := ([a1] : List (Int))) Tryz.underlying25 ti3 rfl rfl rfl rfl rfl)) (by rintro v39_4 _ ⟨S39_4, hl_v39_4, rfl⟩; exact upd rfl [1] rfl rfl) ?_ ?_
        ·rintro v39_4 _ ⟨S39_4, hl_v39_4, rfl⟩
         refine T.ef rfl rfl rfl (wanted_none rfl) (Makes.does (m_build0 (α := Int) Tryz.underlying25 ti3)) (by rintro v33_3 _ ⟨S33_3, hl_v33_3, rfl⟩; exact upd rfl [2] rfl rfl) ?_ ?_
         ·rintro v33_3 _ ⟨S33_3, hl_v33_3, rfl⟩
          refine T.ef rfl rfl rfl (wanted_none rfl) (d_append (i := 0) Tryz.underlying25 Tryz.underlying25 ti3 rfl (by decide) rfl rfl rfl (fun w hw => rd_slc ((rd_sl (i := 2) rfl) w hw) h36) hs37) (by rintro v37_4 _ ⟨S37_4, rfl, hl_v37_4⟩; exact upd rfl [2] rfl rfl) ?_ ?_
          ·rintro v37_4 _ ⟨S37_4, rfl, hl_v37_4⟩
           refine T.ef rfl rfl rfl (wanted_none rfl) (d_append (i := 0) Tryz.underlying25 Tryz.underlying25 ti3 rfl (by decide) rfl rfl rfl (rd_sl (i := 1) rfl) hs40) (by rintro v40_4 _ ⟨S40_4, rfl, hl_v40_4⟩; exact upd rfl [2] rfl rfl) ?_ ?_
           ·rintro v40_4 _ ⟨S40_4, rfl, hl_v40_4⟩
            refine T.nil ?_
            refine F.efn rfl (d_append (i := 0) Tryz.underlying25 Tryz.underlying25 ti3 rfl (by decide) rfl rfl rfl (fun w hw => rd_slc ((rd_sl (i := 2) rfl) w hw) h43) hs44) ?_
            rintro v44_4 _ ⟨S44_4, rfl, hl_v44_4⟩
            refine F.qn rfl (r_assign rfl) (F.nil ?_)
            cases hE_4
            refine Nrm.only [4] rfl ?_
            refine Nrm.pick [0] rfl rfl ?_
            exact hj_3 _ _ ⟨v44_4, S44_4, hl_v44_4, rfl, rfl⟩
           exact T.stop
          exact T.stop
         exact T.stop
        exact T.stop
    ·rcases Bool.eq_false_or_eq_true (decide (x5 < (a0.length : Int))) with g24 | g24
     ·replace hE_3 := if_tt g24 hE_3
      obtain ⟨t27, h27, hE_3⟩ := bind_some hE_3
      refine Tri.reg (l := List.range 12) rfl ?_
      refine F.qn rfl (r_move rfl) (F.qn rfl (r_move rfl) (F.qn rfl (r_len Tryz.underlying25 rfl hl_va0) (F.qn rfl (r_lss rfl rfl) (F.qn rfl (r_move rfl) (F.qg rfl g24 (r_move rfl) ?_)))))
      refine F.qg rfl g24 (r_move rfl) (F.qg rfl g24 (r_indexAddrS Tryz.underlying25 ti3 rfl hl_va0 rfl (rdl_some h27).1 (rdl_some h27).2.1) (F.qg rfl g24 (r_load ta3 rfl (fun w hw => cell_0 (Rd.flat ((rd_sl (i := 0) rfl) w hw) (rdl_some h27).2.2) rfl)) (F.qg rfl g24 (r_move rfl) (F.qg rfl g24 (r_eql rfl rfl) (F.qn rfl (r_pick rfl rfl g24) (F.nil ?_))))))
      cases hE_3
      refine Nrm.only [0, 1, 5, 31] rfl ?_
      refine Nrm.pick [0] rfl rfl ?_
      exact hj_2 _ _ ⟨rfl, rfl⟩
     ·replace hE_3 := if_ff g24 hE_3
      refine Tri.reg (l := List.range 12) rfl ?_
      refine F.qn rfl (r_move rfl) (F.qn rfl (r_move rfl) (F.qn rfl (r_len Tryz.underlying25 rfl hl_va0) (F.qn rfl (r_lss rfl rfl) (F.qn rfl (r_move rfl) ?_))))
      iterate 6 refine F.skf rfl g24 ?_
      refine F.qn rfl (r_pickf rfl rfl g24) (F.nil ?_)
      cases hE_3
      refine Nrm.only [0, 1, 5, 31] rfl ?_
      refine Nrm.pick [0] rfl rfl ?_
      exact hj_2 _ _ ⟨rfl, rfl⟩
  ·rcases Bool.eq_false_or_eq_true (decide (x5 < (a0.length : Int))) with g10 | g10
   ·replace hE_2 := if_tt g10 hE_2
    obtain ⟨t13, h13, hE_2⟩ := bind_some hE_2
    refine Tri.reg (l := List.range 12) rfl ?_
    refine F.qn rfl (r_move rfl) (F.qn rfl (r_move rfl) (F.qn rfl (r_len Tryz.underlying25 rfl hl_va0) (F.qn rfl (r_lss rfl rfl) (F.qn rfl (r_move rfl) (F.qg rfl g10 (r_move rfl) ?_)))))
    refine F.qg rfl g10 (r_move rfl) (F.qg rfl g10 (r_indexAddrS Tryz.underlying25 ti3 rfl hl_va0 rfl (rdl_some h13).1 (rdl_some h13).2.1) (F.qg rfl g10 (r_load ta3 rfl (fun w hw => cell_0 (Rd.flat ((rd_sl (i := 0) rfl) w hw) (rdl_some h13).2.2) rfl)) (F.qg rfl g10 (r_move rfl) (F.qg rfl g10 (r_lss rfl rfl) (F.qn rfl (r_pick rfl rfl g10) (F.nil ?_))))))
    cases hE_2
    refine Nrm.only [0, 1, 5, 17] rfl ?_
    refine Nrm.pick [0] rfl rfl ?_
    exact hj_1 _ _ ⟨rfl, rfl⟩
   ·replace hE_2 := if_ff g10 hE_2
    refine Tri.reg (l := List.range 12) rfl ?_
    refine F.qn rfl (r_move rfl) (F.qn rfl (r_move rfl) (F.qn rfl (r_len Tryz.underlying25 rfl hl_va0) (F.qn rfl (r_lss rfl rfl) (F.qn rfl (r_move rfl) ?_))))
    iterate 6 refine F.skf rfl g10 ?_
    refine F.qn rfl (r_pickf rfl rfl g10) (F.nil ?_)
    cases hE_2
    refine Nrm.only [0, 1, 5, 17] rfl ?_
    refine Nrm.pick [0] rfl rfl ?_
    exact hj_1 _ _ ⟨rfl, rfl⟩


def spec_l2Reach.l1 (k : Nat) (a0_1 : List (Int × Int × Int)) (a2 : Int) (x9 : Int) : Nat → (List (Int)) → (List (Int)) → Int → Option ((List (Int)) × (List (Int)))
 | 0, _, _, _ => none
 | n + 1, x7r, x8r, x10 => (if (decide (x10 < (a0_1.length : Int))) = true then ((rdl a0_1 x10).bind fun t33 => ((spec_l2Has.f k a2 t33.2.2).bind fun t38 => (if (!t38) = true then some true else (rdl x8r x9).bind fun t45 => (if (t33.1 != t45) = true then (rdl x8r x9).bind fun t53 => some (t33.2.1 != t53) else some false))).bind fun y57 => (if y57 = true then some (x7r, x8r) else (rdl x8r x9).bind fun t65 => (spec_l1Has.f k x7r (w64 ((w64 (t33.1 + t33.2.1)) - t65))).bind fun t70 => ((if (!t70) = true then (spec_l1Put.f k x7r (w64 ((w64 (t33.1 + t33.2.1)) - t65))).bind fun t74 => if (x8r ++ ([w64 ((w64 (t33.1 + t33.2.1)) - t65)] : List (Int))).length < 1099511627776 then some (t74, x8r ++ ([w64 ((w64 (t33.1 + t33.2.1)) - t65)] : List (Int))) else none else some (x7r, x8r))).bind fun (y7, y8) => some (y7, y8))).bind fun (y7, y8) => spec_l2Reach.l1 k a0_1 a2 x9 n y7 y8 (w64 (x10 + 1)) else some (x7r, x8r))

def spec_l2Reach.l0 (k : Nat) (a0_1 : List (Int × Int × Int)) (a2 : Int) : Nat → (List (Int)) → (List (Int)) → Int → Option ((List (Int)))
 | 0, _, _, _ => none
 | n + 1, x7, x8, x9 => (if (decide (x9 < (x8.length : Int))) = true then (spec_l2Reach.l1 k a0_1 a2 x9 k x7 x8 0).bind fun (x7r, x8r) => spec_l2Reach.l0 k a0_1 a2 n x7r x8r (w64 (x9 + 1)) else some x7)

def spec_l2Reach.f (k : Nat) (a0_0 : Int) (a0_1 : List (Int × Int × Int)) (a0_2 : List Int) (a1 : Int) (a2 : Int) : Option ((List Int)) := (spec_l2Reach.l0 k a0_1 a2 k ([a1] : List (Int)) ([a1] : List (Int)) 0).bind fun x7 => some x7

theorem spec_l2Reach.ok {k : Nat}  {a0_0 : Int} {a0_1 : List (Int × Int × Int)} {a0_2 : List Int} {a1 : Int} {a2 : Int} {r0 : List Int} (h : spec_l2Reach.f k a0_0 a0_1 a0_2 a1 a2 = some r0) (w : World) {va0_1 : Value} {va0_2 : Value} (hr_a0_1 : Rd w va0_1 a0_1) (hr_a0_2 : Rd w va0_2 a0_2) :
  Calls Tryz.prog 208 ([.agg ([.int .i64 a0_0, va0_1, va0_2].toArray), .int .i64 a1, .int .i64 a2] : List Value).toArray w (Post (fun u ns => ∃ (Sr0 : Nat → Prop), SlLen u r0.length ∧ ns = [R.sl Sr0 u r0]) w) := by
 unfold spec_l2Reach.f at h
 have hl_va0_1 := hr_a0_1.len
 have hl_va0_2 := hr_a0_2.len
 refine Calls.of_tri (N := 80) Tryz.func208 rfl rfl rfl (Sep.nil (M := noM)) ?_
 refine Tri.seq (Tri.reg (l := [0, 1]) rfl ?_)
 refine F.mn rfl (m_boxG rfl rfl) ?_
 rintro _ _ ⟨b3_1, rfl, rfl⟩
 refine F.qn rfl (r_assign rfl) (F.nil (Nrm.seq (Tri.seq (Tri.reg (l := [0, 1, 2, 3, 4, 5]) rfl ?_))))
 refine F.qn rfl (r_move rfl) ?_
 refine F.mn rfl (m_buildF (l := ([a1] : List (Int))) Tryz.underlying25 ti3 rfl rfl rfl rfl rfl) ?_
 rintro v14_1 _ ⟨S14_1, hl_v14_1, rfl⟩
 refine F.qn rfl (r_move rfl) ?_
 refine F.mn rfl (m_buildF (l := ([a1] : List (Int))) Tryz.underlying25 ti3 rfl rfl rfl rfl rfl) ?_
 rintro v16_1 _ ⟨S16_1, hl_v16_1, rfl⟩
 refine F.qn rfl (r_assign rfl) (F.qn rfl (r_assign rfl) (F.nil (Nrm.seq (Tri.seq (Tri.seq (Tri.reg (l := [0]) rfl ?_))))))
 refine F.qn rfl (r_assign rfl) (F.nil (Nrm.seq ?_))
 obtain ⟨x7, hE_1, h⟩ := bind_some h
 refine Tri.block ?_
 refine Tri.only [2, 3, 7, 8, 9] rfl ?_
 refine Tri.pick [2, 0, 1] rfl rfl ?_
 refine Tri.rounds (fun n e' C' => ∃ (x7' : List (Int)) (x8' : List (Int)) (x9' : Int) (w7 : Value) (T7 : Nat → Prop) (w8 : Value) (T8 : Nat → Prop), spec_l2Reach.l0 k a0_1 a2 n x7' x8' x9' = some x7 ∧ SlLen w7 (x7').length ∧ SlLen w8 (x8').length ∧ e' = [(2, .int .i64 a2), (3, .pointer (some ⟨b3_1, 0, none⟩)), (7, w7), (8, w8), (9, .int .i64 x9')] ∧ C' = Sep w noM [R.box b3_1 27 [.int .i64 a0_0, va0_1, va0_2], R.sl T8 w8 (x8' : List (Int)), R.sl T7 w7 (x7' : List (Int))]) k ?_ ?_ ?_
 ·exact ⟨([a1] : List (Int)), ([a1] : List (Int)), 0, v14_1, S14_1, v16_1, S16_1, hE_1, hl_v14_1, hl_v16_1, rfl, rfl⟩
 ·rintro _ _ ⟨_, _, _, _, _, _, _, hE_1, _⟩
  rw [spec_l2Reach.l0.eq_1] at hE_1; cases hE_1
 ·rintro n_1 _ _ ⟨x7, x8, x9, w7, T7, w8, T8, hE_1, hl_w7, hl_w8, rfl, rfl⟩ ih_1
  rw [spec_l2Reach.l0.eq_2] at hE_1
  refine Tri.seq (Tri.seq (Tri.reg (l := [0, 1, 2, 3]) rfl ?_))
  refine F.qn rfl (r_move rfl) (F.qn rfl (r_move rfl) (F.qn rfl (r_len Tryz.underlying25 rfl hl_w8) (F.qn rfl (r_lss rfl rfl) (F.nil (Nrm.seq (Tri.cond (b := decide (x9 < (x8.length : Int))) rfl (fun g_1 => ?_) (fun g_1 => ?_)))))))
  ·replace hE_1 := if_tt g_1 hE_1
   refine Tri.skip (Nrm.seq (Tri.seq (Tri.block ?_)))
   refine Tri.seq (Tri.reg (l := [0]) rfl ?_)
   refine F.qn rfl (r_assign rfl) (F.nil (Nrm.seq ?_))
   obtain ⟨⟨x7r, x8r⟩, hE_2, hE_1⟩ := bind_some hE_1
   refine Tri.block ?_
   refine Tri.only [2, 3, 7, 8, 9, 10] rfl ?_
   refine Tri.pick [0, 1, 2] rfl rfl ?_
   refine Tri.rounds (fun n e' C' => ∃ (x7r' : List (Int)) (x8r' : List (Int)) (x10' : Int) (w7r : Value) (T7r : Nat → Prop) (w8r : Value) (T8r : Nat → Prop), spec_l2Reach.l1 k a0_1 a2 x9 n x7r' x8r' x10' = some (x7r, x8r) ∧ SlLen w7r (x7r').length ∧ SlLen w8r (x8r').length ∧ e' = [(2, .int .i64 a2), (3, .pointer (some ⟨b3_1, 0, none⟩)), (7, w7r), (8, w8r), (9, .int .i64 x9), (10, .int .i64 x10')] ∧ C' = Sep w noM [R.box b3_1 27 [.int .i64 a0_0, va0_1, va0_2], R.sl T8r w8r (x8r' : List (Int)), R.sl T7r w7r (x7r' : List (Int))]) k ?_ ?_ ?_
   ·exact ⟨x7, x8, 0, w7, T7, w8, T8, hE_2, hl_w7, hl_w8, rfl, rfl⟩
   ·rintro _ _ ⟨_, _, _, _, _, _, _, hE_2, _⟩
    rw [spec_l2Reach.l1.eq_1] at hE_2; cases hE_2
   ·rintro n_2 _ _ ⟨x7r, x8r, x10, w7r, T7r, w8r, T8r, hE_2, hl_w7r, hl_w8r, rfl, rfl⟩ ih_2
    rw [spec_l2Reach.l1.eq_2] at hE_2
    refine Tri.seq (Tri.seq (Tri.reg (l := [0, 1, 2, 3, 4]) rfl ?_))
    refine F.qn rfl (r_move rfl) (F.qn rfl (r_fieldAddr tf27_1 rfl) (F.qn rfl (r_load ta24 rfl (fun w hw => cell_1 (box_cells (i := 0) rfl w hw) rfl)) (F.qn rfl (r_len Tryz.underlying24 rfl hl_va0_1) (F.qn rfl (r_lss rfl rfl) (F.nil (Nrm.seq (Tri.cond (b := decide (x10 < (a0_1.length : Int))) rfl (fun g_2 => ?_) (fun g_2 => ?_))))))))
    ·replace hE_2 := if_tt g_2 hE_2
     refine Tri.skip (Nrm.seq (Tri.seq ?_))
     obtain ⟨⟨y7, y8⟩, hE_3, hE_2⟩ := bind_some hE_2
     refine Tri.cut (fun e' C' => ∃ (v7_1 : Value) (S7_1 : Nat → Prop) (v8_1 : Value) (S8_1 : Nat → Prop), SlLen v7_1 (y7).length ∧ SlLen v8_1 (y8).length ∧ e' = [(2, .int .i64 a2), (3, .pointer (some ⟨b3_1, 0, none⟩)), (7, v7_1), (8, v8_1), (9, .int .i64 x9), (10, .int .i64 x10)] ∧ C' = Sep w noM [R.box b3_1 27 [.int .i64 a0_0, va0_1, va0_2], R.sl S7_1 v7_1 (y7 : List (Int)), R.sl S8_1 v8_1 (y8 : List (Int))]) ?_ (fun hj_1 => ?_)
     ·rintro _ _ ⟨v7_1, S7_1, v8_1, S8_1, hl_v7_1, hl_v8_1, rfl, rfl⟩
      refine Nrm.seq (Tri.reg (l := [0, 1, 2]) rfl ?_)
      refine F.qn rfl (r_move rfl) (F.qn rfl (r_add rfl rfl) (F.qn rfl (r_assign rfl) (F.nil (Nrm.round ?_))))
      refine Rnd.only [2, 3, 7, 8, 9, 10] rfl ?_
      refine Rnd.pick [0, 2, 1] rfl rfl ?_
      exact ih_2 _ _ ⟨y7, y8, w64 (x10 + 1), v7_1, S7_1, v8_1, S8_1, hE_2, hl_v7_1, hl_v8_1, rfl, rfl⟩
     ·refine Tri.block ?_
      refine Tri.seq ?_
      obtain ⟨t33, h33, hE_3⟩ := bind_some hE_3
      refine Tri.reg (l := [0, 1, 2, 3, 4, 5, 6]) rfl ?_
      refine F.qn rfl (r_fieldAddr tf27_1 rfl) (F.qn rfl (r_load ta24 rfl (fun w hw => cell_1 (box_cells (i := 0) rfl w hw) rfl)) (F.qn rfl (r_move rfl) (F.qn rfl (r_indexAddrS Tryz.underlying24 ti168 rfl hl_va0_1 rfl (rdl_some h33).1 (rdl_some h33).2.1) (F.qn rfl (r_loadA ta168 ti168 rfl rfl (fun w hw => (Rd.flat ((fun _ hw => hr_a0_1.sep hw) w hw) (rdl_some h33).2.2))) ?_))))
      refine F.mn rfl (m_alloc ti168) ?_
      rintro _ _ ⟨b11_1, rfl, rfl⟩
      refine F.ef0 rfl rfl (wanted_none rfl) (d_storeG0 (i := 0) (cs2 := [.int .i64 t33.1, .int .i64 t33.2.1, .int .i64 t33.2.2]) ti168 rfl rfl rfl rfl rfl (Nat.le_of_ble_eq_true rfl) (lf_cons rfl (lf_cons rfl (lf_cons rfl lf_nil)))) ?_
      rintro _ _ ⟨rfl, rfl⟩
      refine F.nil (Nrm.seq (Tri.seq (Tri.seq ?_)))
      obtain ⟨y57, hE_4, hE_3⟩ := bind_some hE_3
      refine Tri.cut (fun e' C' => e' = [(2, .int .i64 a2), (3, .pointer (some ⟨b3_1, 0, none⟩)), (7, w7r), (8, w8r), (9, .int .i64 x9), (10, .int .i64 x10), (11, .pointer (some ⟨b11_1, 0, none⟩)), (57, .bool y57)] ∧ C' = Sep w noM [R.box b11_1 168 [.int .i64 t33.1, .int .i64 t33.2.1, .int .i64 t33.2.2], R.box b3_1 27 [.int .i64 a0_0, va0_1, va0_2], R.sl T7r w7r (x7r : List (Int)), R.sl T8r w8r (x8r : List (Int))]) ?_ (fun hj_2 => ?_)
      ·rintro _ _ ⟨rfl, rfl⟩
       refine Nrm.seq (Tri.cond (b := y57) rfl (fun g_3 => ?_) (fun g_3 => ?_))
       ·replace hE_3 := if_tt g_3 hE_3
        refine Tri.exit ?_
        refine Exi.then ?_
        refine Exi.same ?_
        cases hE_3
        refine Nrm.only [2, 3, 7, 8, 9, 10] rfl ?_
        refine Nrm.pick [1, 2, 3] rfl rfl ?_
        exact hj_1 _ _ ⟨w7r, T7r, w8r, T8r, hl_w7r, hl_w8r, rfl, rfl⟩
       ·replace hE_3 := if_ff g_3 hE_3
        refine Tri.skip (Nrm.seq (Tri.seq ?_))
        obtain ⟨t65, h65, hE_3⟩ := bind_some hE_3
        refine Tri.drawA mixedT Sep.up [(0, true), (1, true), (2, true), (3, true), (4, true), (5, true), (6, true), (7, true), (8, true), (9, true), (10, true)] [] (by kernel_rfl) ?_
        refine S.qn rfl (r_indexAddrA Tryz.underlying168 ti3 rfl rfl (by decide) (by decide)) (S.qn rfl (r_load ta3 rfl (fun w hw => cell_1 (box_cells (i := 0) rfl w hw) rfl)) (S.qn rfl (r_indexAddrA Tryz.underlying168 ti3 rfl rfl (by decide) (by decide)) (S.qn rfl (r_load ta3 rfl (fun w hw => cell_1 (box_cells (i := 0) rfl w hw) rfl)) (S.qn rfl (r_add rfl rfl) ?_))))
        refine S.qn rfl (r_move rfl) (S.qn rfl (r_move rfl) (S.qn rfl (r_indexAddrS Tryz.underlying25 ti3 rfl hl_w8r rfl (rdl_some h65).1 (rdl_some h65).2.1) (S.qn rfl (r_load ta3 rfl (fun w hw => cell_0 (Rd.flat ((rd_sl (i := 3) rfl) w hw) (rdl_some h65).2.2) rfl)) (S.qn rfl (r_sub rfl rfl) (S.qn rfl (r_assign rfl) (S.nil (F.nil (Nrm.seq (Tri.seq ?_)))))))))
        obtain ⟨t70, h70, hE_3⟩ := bind_some hE_3
        refine Tri.reg (l := [0, 1, 2, 3]) rfl ?_
        refine F.qn rfl (r_move rfl) (F.qn rfl (r_move rfl) ?_)
        refine F.qcn rfl (q_callF (xs := _) rfl ok149 rfl rfl (fun w hw => spec_l1Has.ok h70 w ((rd_sl (i := 2) rfl) w hw))) ?_
        refine F.qn rfl (r_not rfl) (F.nil (Nrm.seq ?_))
        obtain ⟨⟨y7, y8⟩, hE_5, hE_3⟩ := bind_some hE_3
        refine Tri.cut (fun e' C' => ∃ (v7_2 : Value) (S7_2 : Nat → Prop) (v8_2 : Value) (S8_2 : Nat → Prop), SlLen v7_2 (y7).length ∧ SlLen v8_2 (y8).length ∧ e' = [(2, .int .i64 a2), (3, .pointer (some ⟨b3_1, 0, none⟩)), (7, v7_2), (8, v8_2), (9, .int .i64 x9), (10, .int .i64 x10)] ∧ C' = Sep w noM [R.box b3_1 27 [.int .i64 a0_0, va0_1, va0_2], R.sl S7_2 v7_2 (y7 : List (Int)), R.sl S8_2 v8_2 (y8 : List (Int))]) ?_ (fun hj_3 => ?_)
        ·rintro _ _ ⟨v7_2, S7_2, v8_2, S8_2, hl_v7_2, hl_v8_2, rfl, rfl⟩
         refine Nrm.block ?_
         cases hE_3
         refine Nrm.only [2, 3, 7, 8, 9, 10] rfl ?_
         refine Nrm.pick [0, 1, 2] rfl rfl ?_
         exact hj_1 _ _ ⟨v7_2, S7_2, v8_2, S8_2, hl_v7_2, hl_v8_2, rfl, rfl⟩
        ·refine Tri.cond (b := !t70) rfl (fun g_4 => ?_) (fun g_4 => ?_)
         ·replace hE_5 := if_tt g_4 hE_5
          refine Tri.seq ?_
          obtain ⟨t74, h74, hE_5⟩ := bind_some hE_5
          refine Tri.reg (l := [0, 1, 2, 3]) rfl ?_
          refine F.qn rfl (r_move rfl) (F.qn rfl (r_move rfl) ?_)
          refine F.efn rfl (d_callM (xs := _) (cs := [R.sl T7r w7r (x7r : List (Int))]) (rest := [R.box b11_1 168 [.int .i64 t33.1, .int .i64 t33.2.1, .int .i64 t33.2.2], R.box b3_1 27 [.int .i64 a0_0, va0_1, va0_2], R.sl T8r w8r (x8r : List (Int))]) [2] [0, 1, 3] rfl ok244 rfl rfl rfl rfl (fun w hw => spec_l1Put.ok h74 w hl_w7r (Sep.sub hw))) ?_
          rintro v74_1 _ ⟨_, ⟨S74_1, hl_v74_1, rfl⟩, rfl⟩
          refine F.qn rfl (r_assign rfl) (F.nil (Nrm.seq ?_))
          obtain ⟨hs78, hE_5⟩ := ck hE_5
          refine Tri.reg (l := [0, 1, 2, 3, 4]) rfl ?_
          refine F.qn rfl (r_move rfl) (F.qn rfl (r_move rfl) ?_)
          refine F.mn rfl (m_buildF (l := ([w64 ((w64 (t33.1 + t33.2.1)) - t65)] : List (Int))) Tryz.underlying25 ti3 rfl rfl rfl rfl rfl) ?_
          rintro v77_1 _ ⟨S77_1, hl_v77_1, rfl⟩
          refine F.efn rfl (d_append (i := 4) Tryz.underlying25 Tryz.underlying25 ti3 rfl (by decide) rfl rfl rfl (rd_sl (i := 0) rfl) hs78) ?_
          rintro v78_1 _ ⟨S78_1, rfl, hl_v78_1⟩
          refine F.qn rfl (r_assign rfl) (F.nil ?_)
          cases hE_5
          refine Nrm.only [2, 3, 7, 8, 9, 10] rfl ?_
          refine Nrm.pick [3, 1, 4] rfl rfl ?_
          exact hj_3 _ _ ⟨v74_1, S74_1, v78_1, S78_1, hl_v74_1, hl_v78_1, rfl, rfl⟩
         ·replace hE_5 := if_ff g_4 hE_5
          refine Tri.skip ?_
          cases hE_5
          refine Nrm.only [2, 3, 7, 8, 9, 10] rfl ?_
          refine Nrm.pick [1, 2, 3] rfl rfl ?_
          exact hj_3 _ _ ⟨w7r, T7r, w8r, T8r, hl_w7r, hl_w8r, rfl, rfl⟩
      ·obtain ⟨t38, h38, hE_4⟩ := bind_some hE_4
       rcases Bool.eq_false_or_eq_true (!t38) with g40 | g40
       ·replace hE_4 := if_tt g40 hE_4
        refine Tri.drawA mixedT Sep.up [(0, true), (1, true), (2, true), (3, true), (4, true), (5, true), (6, true), (7, true), (8, true), (9, true), (10, true), (11, true), (12, true), (13, true), (14, true), (15, true), (16, true), (17, true), (18, true), (19, true), (20, true), (21, true), (22, true)] [] (by kernel_rfl) ?_
        refine S.qn rfl (r_move rfl) (S.qn rfl (r_indexAddrA Tryz.underlying168 ti3 rfl rfl (by decide) (by decide)) (S.qn rfl (r_load ta3 rfl (fun w hw => cell_1 (box_cells (i := 0) rfl w hw) rfl)) ?_))
        refine S.qcn rfl (q_callF (xs := _) rfl ok216 rfl rfl (fun w hw => spec_l2Has.ok h38 w )) ?_
        refine S.qn rfl (r_not rfl) (S.qn rfl (r_move rfl) ?_)
        iterate 8 refine S.skf rfl g40 ?_
        iterate 7 refine S.sk rfl rfl rfl (wanted_undef rfl rfl rfl) ?_
        refine S.skf rfl g40 (S.qn rfl (r_pick rfl rfl g40) (S.nil (F.nil ?_)))
        cases hE_4
        refine Nrm.only [2, 3, 7, 8, 9, 10, 11, 57] rfl ?_
        refine Nrm.pick [0, 1, 3, 2] rfl rfl ?_
        exact hj_2 _ _ ⟨rfl, rfl⟩
       ·replace hE_4 := if_ff g40 hE_4
        obtain ⟨t45, h45, hE_4⟩ := bind_some hE_4
        rcases Bool.eq_false_or_eq_true (t33.1 != t45) with g48 | g48
        ·replace hE_4 := if_tt g48 hE_4
         obtain ⟨t53, h53, hE_4⟩ := bind_some hE_4
         refine Tri.drawA mixedT Sep.up [(0, true), (1, true), (2, true), (3, true), (4, true), (5, true), (6, true), (7, true), (8, true), (9, true), (10, true), (11, true), (12, true), (13, true), (14, true), (15, true), (16, true), (17, true), (18, true), (19, true), (20, true), (21, true), (22, true)] [] (by kernel_rfl) ?_
         refine S.qn rfl (r_move rfl) (S.qn rfl (r_indexAddrA Tryz.underlying168 ti3 rfl rfl (by decide) (by decide)) (S.qn rfl (r_load ta3 rfl (fun w hw => cell_1 (box_cells (i := 0) rfl w hw) rfl)) ?_))
         refine S.qcn rfl (q_callF (xs := _) rfl ok216 rfl rfl (fun w hw => spec_l2Has.ok h38 w )) ?_
         refine S.qn rfl (r_not rfl) ?_
         refine S.qn rfl (r_move rfl) (S.qg rfl g40 (r_indexAddrA Tryz.underlying168 ti3 rfl rfl (by decide) (by decide)) (S.qg rfl g40 (r_load ta3 rfl (fun w hw => cell_1 (box_cells (i := 0) rfl w hw) rfl)) (S.qg rfl g40 (r_move rfl) (S.qg rfl g40 (r_move rfl) (S.qg rfl g40 (r_indexAddrS Tryz.underlying25 ti3 rfl hl_w8r rfl (rdl_some h45).1 (rdl_some h45).2.1) ?_)))))
         refine S.qg rfl g40 (r_load ta3 rfl (fun w hw => cell_0 (Rd.flat ((rd_sl (i := 2) rfl) w hw) (rdl_some h45).2.2) rfl)) (S.qg rfl g40 (r_neq rfl rfl) (S.qg rfl g40 (r_move rfl) (S.qg rfl g48 (r_indexAddrA Tryz.underlying168 ti3 rfl rfl (by decide) (by decide)) (S.qg rfl g48 (r_load ta3 rfl (fun w hw => cell_1 (box_cells (i := 0) rfl w hw) rfl)) (S.qg rfl g48 (r_move rfl) ?_)))))
         refine S.qg rfl g48 (r_move rfl) (S.qg rfl g48 (r_indexAddrS Tryz.underlying25 ti3 rfl hl_w8r rfl (rdl_some h53).1 (rdl_some h53).2.1) (S.qg rfl g48 (r_load ta3 rfl (fun w hw => cell_0 (Rd.flat ((rd_sl (i := 2) rfl) w hw) (rdl_some h53).2.2) rfl)) (S.qg rfl g48 (r_neq rfl rfl) (S.qg rfl g40 (r_pick rfl rfl g48) (S.qn rfl (r_pickf rfl rfl g40) (S.nil (F.nil ?_)))))))
         cases hE_4
         refine Nrm.only [2, 3, 7, 8, 9, 10, 11, 57] rfl ?_
         refine Nrm.pick [0, 1, 3, 2] rfl rfl ?_
         exact hj_2 _ _ ⟨rfl, rfl⟩
        ·replace hE_4 := if_ff g48 hE_4
         refine Tri.drawA mixedT Sep.up [(0, true), (1, true), (2, true), (3, true), (4, true), (5, true), (6, true), (7, true), (8, true), (9, true), (10, true), (11, true), (12, true), (13, true), (14, true), (15, true), (16, true), (17, true), (18, true), (19, true), (20, true), (21, true), (22, true)] [] (by kernel_rfl) ?_
         refine S.qn rfl (r_move rfl) (S.qn rfl (r_indexAddrA Tryz.underlying168 ti3 rfl rfl (by decide) (by decide)) (S.qn rfl (r_load ta3 rfl (fun w hw => cell_1 (box_cells (i := 0) rfl w hw) rfl)) ?_))
         refine S.qcn rfl (q_callF (xs := _) rfl ok216 rfl rfl (fun w hw => spec_l2Has.ok h38 w )) ?_
         refine S.qn rfl (r_not rfl) (S.qn rfl (r_move rfl) (S.qg rfl g40 (r_indexAddrA Tryz.underlying168 ti3 rfl rfl (by decide) (by decide)) (S.qg rfl g40 (r_load ta3 rfl (fun w hw => cell_1 (box_cells (i := 0) rfl w hw) rfl)) ?_)))
         refine S.qg rfl g40 (r_move rfl) (S.qg rfl g40 (r_move rfl) (S.qg rfl g40 (r_indexAddrS Tryz.underlying25 ti3 rfl hl_w8r rfl (rdl_some h45).1 (rdl_some h45).2.1) (S.qg rfl g40 (r_load ta3 rfl (fun w hw => cell_0 (Rd.flat ((rd_sl (i := 2) rfl) w hw) (rdl_some h45).2.2) rfl)) (S.qg rfl g40 (r_neq rfl rfl) (S.qg rfl g40 (r_move rfl) ?_)))))
         iterate 7 refine S.skf rfl g48 ?_
         refine S.qg rfl g40 (r_pickf rfl rfl g48) (S.qn rfl (r_pickf rfl rfl g40) (S.nil (F.nil ?_)))
         cases hE_4
         refine Nrm.only [2, 3, 7, 8, 9, 10, 11, 57] rfl ?_
         refine Nrm.pick [0, 1, 3, 2] rfl rfl ?_
         exact hj_2 _ _ ⟨rfl, rfl⟩
    ·replace hE_2 := if_ff g_2 hE_2
     refine Tri.exit ?_
     refine Exi.then ?_
     refine Exi.then ?_
     refine Exi.same ?_
     cases hE_2
     refine Nrm.block ?_
     refine Nrm.seq (Tri.reg (l := [0, 1, 2]) rfl ?_)
     refine F.qn rfl (r_move rfl) (F.qn rfl (r_add rfl rfl) (F.qn rfl (r_assign rfl) (F.nil (Nrm.round ?_))))
     refine Rnd.only [2, 3, 7, 8, 9] rfl ?_
     refine Rnd.pick [0, 1, 2] rfl rfl ?_
     exact ih_1 _ _ ⟨x7r, x8r, w64 (x9 + 1), w7r, T7r, w8r, T8r, hE_1, hl_w7r, hl_w8r, rfl, rfl⟩
  ·replace hE_1 := if_ff g_1 hE_1
   refine Tri.exit ?_
   refine Exi.then ?_
   refine Exi.then ?_
   refine Exi.same ?_
   cases hE_1
   refine Nrm.seq (Tri.seq (Tri.reg (l := [0, 1]) rfl ?_))
   refine F.qn rfl (r_move rfl) (F.qn rfl (r_assign rfl) (F.nil (Nrm.seq (Tri.ret ?_))))
   cases h
   exact Rtn.body (.tmp rfl .nil) (fun w hw => ⟨_, _, rfl, ⟨T7, hl_w7, rfl⟩, Sep.pick (is := [2]) rfl rfl hw⟩)


def spec_l2Close.l1 (k : Nat) (a0_2 : List Int) (t11 : List Int) : Nat → Int → Int → Option (Int)
 | 0, _, _ => none
 | n + 1, x7, x8 => (if (decide (x8 < (t11.length : Int))) = true then (rdl t11 x8).bind fun t24 => (rdl a0_2 t24).bind fun t26 => spec_l2Close.l1 k a0_2 t11 n (bor x7 t26) (w64 (x8 + 1)) else some x7)

def spec_l2Close.l0 (k : Nat) (a0_0 : Int) (a0_1 : List (Int × Int × Int)) (a0_2 : List Int) : Nat → Int → Option ((Unit) ⊕ (Int × (List Int)))
 | 0, _ => none
 | n + 1, x1 => (spec_l2Reach.f k a0_0 a0_1 a0_2 0 x1).bind fun t11 => (spec_l2Close.l1 k a0_2 t11 k x1 0).bind fun x7 => (if (x7 == x1) = true then some (Sum.inr (x1, t11)) else spec_l2Close.l0 k a0_0 a0_1 a0_2 n x7)

def spec_l2Close.f (k : Nat) (a0_0 : Int) (a0_1 : List (Int × Int × Int)) (a0_2 : List Int) (a1 : Int) : Option (Int × (List Int)) := (spec_l2Close.l0 k a0_0 a0_1 a0_2 k a1).bind fun s => Lr s some fun _ => none

theorem spec_l2Close.ok {k : Nat}  {a0_0 : Int} {a0_1 : List (Int × Int × Int)} {a0_2 : List Int} {a1 : Int} {r0 : Int} {r1 : List Int} (h : spec_l2Close.f k a0_0 a0_1 a0_2 a1 = some (r0, r1)) (w : World) {va0_1 : Value} {va0_2 : Value} (hr_a0_1 : Rd w va0_1 a0_1) (hr_a0_2 : Rd w va0_2 a0_2) :
  Calls Tryz.prog 175 ([.agg ([.int .i64 a0_0, va0_1, va0_2].toArray), .int .i64 a1] : List Value).toArray w (Post (fun u ns => ∃ (ur1 : Value) (Sr1 : Nat → Prop), u = .tuple #[.int .i64 r0, ur1] ∧ SlLen ur1 r1.length ∧ ns = [R.sl Sr1 ur1 r1]) w) := by
 unfold spec_l2Close.f at h
 have hl_va0_1 := hr_a0_1.len
 have hl_va0_2 := hr_a0_2.len
 refine Calls.of_tri (N := 35) Tryz.func175 rfl rfl rfl (Sep.nil (M := noM)) ?_
 refine Tri.seq (Tri.reg (l := [0, 1, 2]) rfl ?_)
 refine F.mn rfl (m_boxG rfl rfl) ?_
 rintro _ _ ⟨b2_1, rfl, rfl⟩
 refine F.qn rfl (r_assign rfl) (F.qn rfl (r_assign rfl) (F.nil (Nrm.seq ?_)))
 obtain ⟨s0, hE_1, h⟩ := bind_some h
 refine Tri.block ?_
 refine Tri.only [1, 2] rfl ?_
 refine Tri.pick [0] rfl rfl ?_
 refine Tri.rounds (fun n e' C' => ∃ (x1' : Int), spec_l2Close.l0 k a0_0 a0_1 a0_2 n x1' = some s0 ∧ e' = [(1, .int .i64 x1'), (2, .pointer (some ⟨b2_1, 0, none⟩))] ∧ C' = Sep w noM [R.box b2_1 27 [.int .i64 a0_0, va0_1, va0_2]]) k ?_ ?_ ?_
 ·exact ⟨a1, hE_1, rfl, rfl⟩
 ·rintro _ _ ⟨_, hE_1, _⟩
  rw [spec_l2Close.l0.eq_1] at hE_1; cases hE_1
 ·rintro n_1 _ _ ⟨x1, hE_1, rfl, rfl⟩ ih_1
  rw [spec_l2Close.l0.eq_2] at hE_1
  refine Tri.block ?_
  refine Tri.seq ?_
  obtain ⟨t11, h11, hE_1⟩ := bind_some hE_1
  refine Tri.reg (l := [0, 1, 2, 3, 4, 5]) rfl ?_
  refine F.qn rfl (r_loadA ta27 ti27 rfl rfl (fun w hw => (box_cells (i := 0) rfl w hw))) (F.qn rfl (r_move rfl) ?_)
  refine F.mn rfl (m_callF (xs := _) rfl ok208 rfl rfl (fun w hw => spec_l2Reach.ok h11 w ((fun _ hw => hr_a0_1.sep hw) w hw) ((fun _ hw => hr_a0_2.sep hw) w hw))) ?_
  rintro v11_1 _ ⟨_, ⟨S11_1, hl_v11_1, rfl⟩, rfl⟩
  refine F.qn rfl (r_move rfl) (F.qn rfl (r_assign rfl) (F.qn rfl (r_assign rfl) (F.nil (Nrm.seq (Tri.seq (Tri.seq (Tri.reg (l := [0]) rfl ?_)))))))
  refine F.qn rfl (r_assign rfl) (F.nil (Nrm.seq ?_))
  obtain ⟨x7, hE_2, hE_1⟩ := bind_some hE_1
  refine Tri.block ?_
  refine Tri.only [1, 2, 6, 7, 8] rfl ?_
  refine Tri.pick [1, 0] rfl rfl ?_
  refine Tri.rounds (fun n e' C' => ∃ (x7' : Int) (x8' : Int), spec_l2Close.l1 k a0_2 t11 n x7' x8' = some x7 ∧ e' = [(1, .int .i64 x1), (2, .pointer (some ⟨b2_1, 0, none⟩)), (6, v11_1), (7, .int .i64 x7'), (8, .int .i64 x8')] ∧ C' = Sep w noM [R.box b2_1 27 [.int .i64 a0_0, va0_1, va0_2], R.sl S11_1 v11_1 (t11 : List (Int))]) k ?_ ?_ ?_
  ·exact ⟨x1, 0, hE_2, rfl, rfl⟩
  ·rintro _ _ ⟨_, _, hE_2, _⟩
   rw [spec_l2Close.l1.eq_1] at hE_2; cases hE_2
  ·rintro n_2 _ _ ⟨x7, x8, hE_2, rfl, rfl⟩ ih_2
   rw [spec_l2Close.l1.eq_2] at hE_2
   refine Tri.seq (Tri.seq (Tri.reg (l := [0, 1, 2, 3]) rfl ?_))
   refine F.qn rfl (r_move rfl) (F.qn rfl (r_move rfl) (F.qn rfl (r_len Tryz.underlying25 rfl hl_v11_1) (F.qn rfl (r_lss rfl rfl) (F.nil (Nrm.seq (Tri.cond (b := decide (x8 < (t11.length : Int))) rfl (fun g_1 => ?_) (fun g_1 => ?_)))))))
   ·replace hE_2 := if_tt g_1 hE_2
    refine Tri.skip (Nrm.seq (Tri.seq (Tri.block ?_)))
    obtain ⟨t24, h24, hE_2⟩ := bind_some hE_2
    obtain ⟨t26, h26, hE_2⟩ := bind_some hE_2
    refine Tri.drawA mixedT Sep.up [(0, true), (1, true), (2, true), (3, true), (4, true), (5, true), (6, true), (7, true), (8, true), (9, true), (10, true)] [] (by kernel_rfl) ?_
    refine S.qn rfl (r_move rfl) (S.qn rfl (r_fieldAddr tf27_2 rfl) (S.qn rfl (r_load ta25 rfl (fun w hw => cell_1 (box_cells (i := 0) rfl w hw) rfl)) (S.qn rfl (r_move rfl) (S.qn rfl (r_move rfl) ?_))))
    refine S.qn rfl (r_indexAddrS Tryz.underlying25 ti3 rfl hl_v11_1 rfl (rdl_some h24).1 (rdl_some h24).2.1) (S.qn rfl (r_load ta3 rfl (fun w hw => cell_0 (Rd.flat ((rd_sl (i := 1) rfl) w hw) (rdl_some h24).2.2) rfl)) (S.qn rfl (r_indexAddrS Tryz.underlying25 ti3 rfl hl_va0_2 rfl (rdl_some h26).1 (rdl_some h26).2.1) (S.qn rfl (r_load ta3 rfl (fun w hw => cell_0 (Rd.flat ((fun _ hw => hr_a0_2.sep hw) w hw) (rdl_some h26).2.2) rfl)) (S.qn rfl (r_or rfl rfl) (S.qn rfl (r_assign rfl) (S.nil (F.nil (Nrm.block ?_))))))))
    refine Nrm.seq (Tri.reg (l := [0, 1, 2]) rfl ?_)
    refine F.qn rfl (r_move rfl) (F.qn rfl (r_add rfl rfl) (F.qn rfl (r_assign rfl) (F.nil (Nrm.round ?_))))
    refine Rnd.only [1, 2, 6, 7, 8] rfl ?_
    refine Rnd.pick [0, 1] rfl rfl ?_
    exact ih_2 _ _ ⟨bor x7 t26, w64 (x8 + 1), hE_2, rfl, rfl⟩
   ·replace hE_2 := if_ff g_1 hE_2
    refine Tri.exit ?_
    refine Exi.then ?_
    refine Exi.then ?_
    refine Exi.same ?_
    cases hE_2
    refine Nrm.seq (Tri.seq (Tri.seq (Tri.reg (l := [0, 1, 2]) rfl ?_)))
    refine F.qn rfl (r_move rfl) (F.qn rfl (r_move rfl) (F.qn rfl (r_eql rfl rfl) (F.nil (Nrm.seq (Tri.cond (b := x7 == x1) rfl (fun g_2 => ?_) (fun g_2 => ?_))))))
    ·replace hE_1 := if_tt g_2 hE_1
     refine Tri.seq (Tri.reg (l := [0, 1, 2, 3]) rfl ?_)
     refine F.qn rfl (r_move rfl) (F.qn rfl (r_move rfl) (F.qn rfl (r_assign rfl) (F.qn rfl (r_assign rfl) (F.nil (Nrm.seq (Tri.ret ?_))))))
     refine Rtn.then ?_
     refine Rtn.block ?_
     refine Rtn.then ?_
     refine Rtn.block ?_
     cases hE_1
     replace h := Lr_inr h
     cases h
     exact Rtn.body (.tmp rfl (.tmp rfl .nil)) (fun w hw => ⟨_, _, rfl, ⟨v11_1, S11_1, rfl, hl_v11_1, rfl⟩, Sep.pick (is := [1]) rfl rfl hw⟩)
    ·replace hE_1 := if_ff g_2 hE_1
     refine Tri.skip (Nrm.seq (Tri.reg (l := [0, 1]) rfl ?_))
     refine F.qn rfl (r_move rfl) (F.qn rfl (r_assign rfl) (F.nil (Nrm.block ?_)))
     refine Nrm.round ?_
     refine Rnd.only [1, 2] rfl ?_
     refine Rnd.pick [0] rfl rfl ?_
     exact ih_1 _ _ ⟨x7, hE_1, rfl, rfl⟩


def spec_l3Wins.f (k : Nat) (a0_0 : Int) (a0_1 : List (Int × Int × Int)) (a0_2 : List Int) (a1 : Int) : Option (Bool) := (spec_l2Close.f k a0_0 a0_1 a0_2 a1).bind fun (t10_1, t10_2) => (spec_l1Has.f k t10_2 (w64 (a0_0 - 1))).bind fun t17 => some t17

theorem spec_l3Wins.ok {k : Nat}  {a0_0 : Int} {a0_1 : List (Int × Int × Int)} {a0_2 : List Int} {a1 : Int} {r0 : Bool} (h : spec_l3Wins.f k a0_0 a0_1 a0_2 a1 = some r0) (w : World) {va0_1 : Value} {va0_2 : Value} (hr_a0_1 : Rd w va0_1 a0_1) (hr_a0_2 : Rd w va0_2 a0_2) :
  Calls Tryz.prog 88 ([.agg ([.int .i64 a0_0, va0_1, va0_2].toArray), .int .i64 a1] : List Value).toArray w (fun e w' => e = .returned (.bool r0) ∧ Ext w w') := by
 unfold spec_l3Wins.f at h
 have hl_va0_1 := hr_a0_1.len
 have hl_va0_2 := hr_a0_2.len
 refine Calls.of_tri (N := 18) Tryz.func88 rfl rfl rfl (Sep.nil (M := noM)) ?_
 refine Tri.seq (Tri.reg (l := [0, 1]) rfl ?_)
 refine F.mn rfl (m_boxG rfl rfl) ?_
 rintro _ _ ⟨b2_1, rfl, rfl⟩
 refine F.qn rfl (r_assign rfl) (F.nil (Nrm.seq (Tri.seq ?_)))
 obtain ⟨⟨t10_1, t10_2⟩, h10, h⟩ := bind_some h
 refine Tri.reg (l := [0, 1, 2, 3, 4, 5, 6, 7]) rfl ?_
 refine F.qn rfl (r_loadA ta27 ti27 rfl rfl (fun w hw => (box_cells (i := 0) rfl w hw))) (F.qn rfl (r_move rfl) ?_)
 refine F.mn rfl (m_callF (xs := _) rfl ok175 rfl rfl (fun w hw => spec_l2Close.ok h10 w ((fun _ hw => hr_a0_1.sep hw) w hw) ((fun _ hw => hr_a0_2.sep hw) w hw))) ?_
 rintro _ _ ⟨_, ⟨v10_1, S10_1, rfl, hl_v10_1, rfl⟩, rfl⟩
 refine F.qn rfl (r_move rfl) (F.qn rfl (r_extract rfl rfl) (F.qn rfl (r_extract rfl rfl) (F.qn rfl (r_assign rfl) (F.qn rfl (r_assign rfl) (F.nil (Nrm.seq (Tri.seq ?_)))))))
 obtain ⟨t17, h17, h⟩ := bind_some h
 refine Tri.reg (l := [0, 1, 2, 3, 4, 5]) rfl ?_
 refine F.qn rfl (r_move rfl) (F.qn rfl (r_fieldAddr tf27_0 rfl) (F.qn rfl (r_load ta3 rfl (fun w hw => cell_1 (box_cells (i := 1) rfl w hw) rfl)) (F.qn rfl (r_sub rfl rfl) ?_)))
 refine F.qcn rfl (q_callF (xs := _) rfl ok149 rfl rfl (fun w hw => spec_l1Has.ok h17 w ((rd_sl (i := 0) rfl) w hw))) ?_
 refine F.qn rfl (r_assign rfl) (F.nil (Nrm.seq (Tri.ret ?_)))
 cases h
 exact Rtn.body (.tmp rfl .nil) (fun w hw => ⟨rfl, hw.ext⟩)


def spec_l1In.f (k : Nat) (a0 : Int) (a1 : Int) (a2 : Int) : Option (Bool) := ((if (decide (a0 ≥ a1)) = true then some (decide (a0 ≤ a2)) else some false)).bind fun y6 => some y6

theorem spec_l1In.ok {k : Nat}  {a0 : Int} {a1 : Int} {a2 : Int} {r0 : Bool} (h : spec_l1In.f k a0 a1 a2 = some r0) (w : World) :
  Calls Tryz.prog 148 ([.int .i64 a0, .int .i64 a1, .int .i64 a2] : List Value).toArray w (fun e w' => e = .returned (.bool r0) ∧ Ext w w') := by
 unfold spec_l1In.f at h
 refine Calls.of_tri (N := 15) Tryz.func148 rfl rfl rfl (Sep.nil (M := noM)) ?_
 refine Tri.seq (Tri.reg (l := [0]) rfl ?_)
 refine F.qn rfl (r_assign rfl) (F.nil (Nrm.seq (Tri.seq ?_)))
 obtain ⟨y6, hE_1, h⟩ := bind_some h
 refine Tri.cut (fun e' C' => e' = [(6, .bool y6)] ∧ C' = Sep w noM []) ?_ (fun hj_1 => ?_)
 ·rintro _ _ ⟨rfl, rfl⟩
  refine Nrm.seq (Tri.ret ?_)
  cases h
  exact Rtn.body (.tmp rfl .nil) (fun w hw => ⟨rfl, hw.ext⟩)
 ·rcases Bool.eq_false_or_eq_true (decide (a0 ≥ a1)) with g10 | g10
  ·replace hE_1 := if_tt g10 hE_1
   refine Tri.reg (l := [0, 1, 2, 3, 4, 5, 6, 7, 8]) rfl ?_
   refine F.qn rfl (r_move rfl) (F.qn rfl (r_move rfl) (F.qn rfl (r_geq rfl rfl) ?_))
   refine F.qn rfl (r_move rfl) (F.qg rfl g10 (r_move rfl) (F.qg rfl g10 (r_move rfl) (F.qg rfl g10 (r_leq rfl rfl) (F.qn rfl (r_pick rfl rfl g10) (F.qn rfl (r_assign rfl) (F.nil ?_))))))
   cases hE_1
   refine Nrm.only [6] rfl ?_
   refine Nrm.pick [] rfl rfl ?_
   exact hj_1 _ _ ⟨rfl, rfl⟩
  ·replace hE_1 := if_ff g10 hE_1
   refine Tri.reg (l := [0, 1, 2, 3, 4, 5, 6, 7, 8]) rfl ?_
   refine F.qn rfl (r_move rfl) (F.qn rfl (r_move rfl) (F.qn rfl (r_geq rfl rfl) (F.qn rfl (r_move rfl) ?_)))
   iterate 3 refine F.skf rfl g10 ?_
   refine F.qn rfl (r_pickf rfl rfl g10) (F.qn rfl (r_assign rfl) (F.nil ?_))
   cases hE_1
   refine Nrm.only [6] rfl ?_
   refine Nrm.pick [] rfl rfl ?_
   exact hj_1 _ _ ⟨rfl, rfl⟩


def spec_l2Set.f (k : Nat) (a0 : Int) : Option (Bool) := (spec_l1In.f k a0 0 63).bind fun t4 => some t4

theorem spec_l2Set.ok {k : Nat}  {a0 : Int} {r0 : Bool} (h : spec_l2Set.f k a0 = some r0) (w : World) :
  Calls Tryz.prog 178 ([.int .i64 a0] : List Value).toArray w (fun e w' => e = .returned (.bool r0) ∧ Ext w w') := by
 unfold spec_l2Set.f at h
 refine Calls.of_tri (N := 5) Tryz.func178 rfl rfl rfl (Sep.nil (M := noM)) ?_
 refine Tri.seq (Tri.reg (l := [0]) rfl ?_)
 refine F.qn rfl (r_assign rfl) (F.nil (Nrm.seq (Tri.seq ?_)))
 obtain ⟨t4, h4, h⟩ := bind_some h
 refine Tri.reg (l := [0, 1, 2]) rfl ?_
 refine F.qn rfl (r_move rfl) ?_
 refine F.qcn rfl (q_callF (xs := _) rfl ok148 rfl rfl (fun w hw => spec_l1In.ok h4 w )) ?_
 refine F.qn rfl (r_assign rfl) (F.nil (Nrm.seq (Tri.ret ?_)))
 cases h
 exact Rtn.body (.tmp rfl .nil) (fun w hw => ⟨rfl, hw.ext⟩)


def spec_l2Maze.l1 (k : Nat) (a0_0 : Int) (a0_2 : List Int) : Nat → Int → Option ((Unit) ⊕ (Bool))
 | 0, _ => none
 | n + 1, x5 => (if (decide (x5 < a0_0)) = true then (rdl a0_2 x5).bind fun t85 => (spec_l2Set.f k t85).bind fun t87 => (if (!t87) = true then some (Sum.inr false) else spec_l2Maze.l1 k a0_0 a0_2 n (w64 (x5 + 1))) else some (Sum.inl ()))

def spec_l2Maze.l0 (k : Nat) (a0_0 : Int) (a0_1 : List (Int × Int × Int)) : Nat → Int → Option ((Unit) ⊕ (Bool))
 | 0, _ => none
 | n + 1, x3 => (if (decide (x3 < (a0_1.length : Int))) = true then (rdl a0_1 x3).bind fun t34 => ((spec_l1In.f k t34.1 0 (w64 (a0_0 - 1))).bind fun t41 => (if (!t41) = true then some true else (spec_l1In.f k t34.2.1 (w64 (t34.1 + 1)) (w64 (a0_0 - 1))).bind fun t52 => (if (!t52) = true then some true else (spec_l2Set.f k t34.2.2).bind fun t58 => (if (!t58) = true then some true else (if (decide (x3 > 0)) = true then (rdl a0_1 (w64 (x3 - 1))).bind fun t69 => (spec_l2Before.f k t69.1 t69.2.1 t69.2.2 t34.1 t34.2.1 t34.2.2).bind fun t72 => some (!t72) else some false))))).bind fun y75 => (if y75 = true then some (Sum.inr false) else spec_l2Maze.l0 k a0_0 a0_1 n (w64 (x3 + 1))) else some (Sum.inl ()))

def spec_l2Maze.f (k : Nat) (a0_0 : Int) (a0_1 : List (Int × Int × Int)) (a0_2 : List Int) : Option (Bool) := ((spec_l1In.f k a0_0 1 12).bind fun t8 => (if (!t8) = true then some true else (if (decide ((a0_1.length : Int) > 30)) = true then some true else some ((a0_2.length : Int) != a0_0)))).bind fun y23 => (if y23 = true then some false else (spec_l2Maze.l0 k a0_0 a0_1 k 0).bind fun s => Lr s some fun _ => (spec_l2Maze.l1 k a0_0 a0_2 k 0).bind fun s => Lr s some fun _ => some true)

theorem spec_l2Maze.ok {k : Nat}  {a0_0 : Int} {a0_1 : List (Int × Int × Int)} {a0_2 : List Int} {r0 : Bool} (h : spec_l2Maze.f k a0_0 a0_1 a0_2 = some r0) (w : World) {va0_1 : Value} {va0_2 : Value} (hr_a0_1 : Rd w va0_1 a0_1) (hr_a0_2 : Rd w va0_2 a0_2) :
  Calls Tryz.prog 108 ([.agg ([.int .i64 a0_0, va0_1, va0_2].toArray)] : List Value).toArray w (fun e w' => e = .returned (.bool r0) ∧ Ext w w') := by
 unfold spec_l2Maze.f at h
 have hl_va0_1 := hr_a0_1.len
 have hl_va0_2 := hr_a0_2.len
 refine Calls.of_tri (N := 89) Tryz.func108 rfl rfl rfl (Sep.nil (M := noM)) ?_
 refine Tri.seq (Tri.reg (l := [0, 1]) rfl ?_)
 refine F.mn rfl (m_boxG rfl rfl) ?_
 rintro _ _ ⟨b1_1, rfl, rfl⟩
 refine F.qn rfl (r_assign rfl) (F.nil (Nrm.seq (Tri.seq (Tri.seq ?_))))
 obtain ⟨y23, hE_1, h⟩ := bind_some h
 refine Tri.cut (fun e' C' => e' = [(1, .pointer (some ⟨b1_1, 0, none⟩)), (23, .bool y23)] ∧ C' = Sep w noM [R.box b1_1 27 [.int .i64 a0_0, va0_1, va0_2]]) ?_ (fun hj_1 => ?_)
 ·rintro _ _ ⟨rfl, rfl⟩
  refine Nrm.seq (Tri.cond (b := y23) rfl (fun g_1 => ?_) (fun g_1 => ?_))
  ·replace h := if_tt g_1 h
   refine Tri.seq (Tri.reg (l := [0]) rfl ?_)
   refine F.qn rfl (r_assign rfl) (F.nil (Nrm.seq (Tri.ret ?_)))
   refine Rtn.then ?_
   cases h
   exact Rtn.body (.tmp rfl .nil) (fun w hw => ⟨rfl, hw.ext⟩)
  ·replace h := if_ff g_1 h
   refine Tri.skip (Nrm.seq (Tri.seq (Tri.seq (Tri.reg (l := [0]) rfl ?_))))
   refine F.qn rfl (r_assign rfl) (F.nil (Nrm.seq ?_))
   obtain ⟨s0, hE_2, h⟩ := bind_some h
   refine Tri.block ?_
   refine Tri.only [1, 3] rfl ?_
   refine Tri.pick [0] rfl rfl ?_
   refine Tri.rounds (fun n e' C' => ∃ (x3' : Int), spec_l2Maze.l0 k a0_0 a0_1 n x3' = some s0 ∧ e' = [(1, .pointer (some ⟨b1_1, 0, none⟩)), (3, .int .i64 x3')] ∧ C' = Sep w noM [R.box b1_1 27 [.int .i64 a0_0, va0_1, va0_2]]) k ?_ ?_ ?_
   ·exact ⟨0, hE_2, rfl, rfl⟩
   ·rintro _ _ ⟨_, hE_2, _⟩
    rw [spec_l2Maze.l0.eq_1] at hE_2; cases hE_2
   ·rintro n_1 _ _ ⟨x3, hE_2, rfl, rfl⟩ ih_1
    rw [spec_l2Maze.l0.eq_2] at hE_2
    refine Tri.seq (Tri.seq (Tri.reg (l := [0, 1, 2, 3, 4]) rfl ?_))
    refine F.qn rfl (r_move rfl) (F.qn rfl (r_fieldAddr tf27_1 rfl) (F.qn rfl (r_load ta24 rfl (fun w hw => cell_1 (box_cells (i := 0) rfl w hw) rfl)) (F.qn rfl (r_len Tryz.underlying24 rfl hl_va0_1) (F.qn rfl (r_lss rfl rfl) (F.nil (Nrm.seq (Tri.cond (b := decide (x3 < (a0_1.length : Int))) rfl (fun g_2 => ?_) (fun g_2 => ?_))))))))
    ·replace hE_2 := if_tt g_2 hE_2
     refine Tri.skip (Nrm.seq (Tri.seq (Tri.block ?_)))
     refine Tri.seq ?_
     obtain ⟨t34, h34, hE_2⟩ := bind_some hE_2
     refine Tri.reg (l := [0, 1, 2, 3, 4, 5, 6]) rfl ?_
     refine F.qn rfl (r_fieldAddr tf27_1 rfl) (F.qn rfl (r_load ta24 rfl (fun w hw => cell_1 (box_cells (i := 0) rfl w hw) rfl)) (F.qn rfl (r_move rfl) (F.qn rfl (r_indexAddrS Tryz.underlying24 ti168 rfl hl_va0_1 rfl (rdl_some h34).1 (rdl_some h34).2.1) (F.qn rfl (r_loadA ta168 ti168 rfl rfl (fun w hw => (Rd.flat ((fun _ hw => hr_a0_1.sep hw) w hw) (rdl_some h34).2.2))) ?_))))
     refine F.mn rfl (m_alloc ti168) ?_
     rintro _ _ ⟨b4_1, rfl, rfl⟩
     refine F.ef0 rfl rfl (wanted_none rfl) (d_storeG0 (i := 0) (cs2 := [.int .i64 t34.1, .int .i64 t34.2.1, .int .i64 t34.2.2]) ti168 rfl rfl rfl rfl rfl (Nat.le_of_ble_eq_true rfl) (lf_cons rfl (lf_cons rfl (lf_cons rfl lf_nil)))) ?_
     rintro _ _ ⟨rfl, rfl⟩
     refine F.nil (Nrm.seq (Tri.seq ?_))
     obtain ⟨y75, hE_3, hE_2⟩ := bind_some hE_2
     refine Tri.cut (fun e' C' => e' = [(1, .pointer (some ⟨b1_1, 0, none⟩)), (3, .int .i64 x3), (75, .bool y75)] ∧ C' = Sep w noM [R.box b1_1 27 [.int .i64 a0_0, va0_1, va0_2]]) ?_ (fun hj_2 => ?_)
     ·rintro _ _ ⟨rfl, rfl⟩
      refine Nrm.seq (Tri.cond (b := y75) rfl (fun g_3 => ?_) (fun g_3 => ?_))
      ·replace hE_2 := if_tt g_3 hE_2
       refine Tri.seq (Tri.reg (l := [0]) rfl ?_)
       refine F.qn rfl (r_assign rfl) (F.nil (Nrm.seq (Tri.ret ?_)))
       refine Rtn.block ?_
       refine Rtn.then ?_
       refine Rtn.then ?_
       refine Rtn.block ?_
       refine Rtn.then ?_
       cases hE_2
       replace h := Lr_inr h
       cases h
       exact Rtn.body (.tmp rfl .nil) (fun w hw => ⟨rfl, hw.ext⟩)
      ·replace hE_2 := if_ff g_3 hE_2
       refine Tri.skip (Nrm.block ?_)
       refine Nrm.seq (Tri.reg (l := [0, 1, 2]) rfl ?_)
       refine F.qn rfl (r_move rfl) (F.qn rfl (r_add rfl rfl) (F.qn rfl (r_assign rfl) (F.nil (Nrm.round ?_))))
       refine Rnd.only [1, 3] rfl ?_
       refine Rnd.pick [0] rfl rfl ?_
       exact ih_1 _ _ ⟨w64 (x3 + 1), hE_2, rfl, rfl⟩
     ·obtain ⟨t41, h41, hE_3⟩ := bind_some hE_3
      rcases Bool.eq_false_or_eq_true (!t41) with g43 | g43
      ·replace hE_3 := if_tt g43 hE_3
       refine Tri.drawA mixedT Sep.up [(0, true), (1, true), (2, true), (3, true), (4, true), (5, true), (6, true), (7, true), (8, true), (9, true), (10, true), (11, true), (12, true), (13, true), (14, true), (15, true), (16, true), (17, true), (18, true), (19, true), (20, true), (21, true), (22, true), (23, true), (24, true), (25, true), (26, true), (27, true), (28, true), (29, true), (30, true), (31, true), (32, true), (33, true), (34, true), (35, true), (36, true), (37, true), (38, true), (39, true)] [] (by kernel_rfl) ?_
       refine S.qn rfl (r_indexAddrA Tryz.underlying168 ti3 rfl rfl (by decide) (by decide)) (S.qn rfl (r_load ta3 rfl (fun w hw => cell_1 (box_cells (i := 0) rfl w hw) rfl)) (S.qn rfl (r_fieldAddr tf27_0 rfl) (S.qn rfl (r_load ta3 rfl (fun w hw => cell_1 (box_cells (i := 1) rfl w hw) rfl)) (S.qn rfl (r_sub rfl rfl) ?_))))
       refine S.qcn rfl (q_callF (xs := _) rfl ok148 rfl rfl (fun w hw => spec_l1In.ok h41 w )) ?_
       refine S.qn rfl (r_not rfl) (S.qn rfl (r_move rfl) ?_)
       iterate 10 refine S.skf rfl g43 ?_
       refine S.qn rfl (r_pick rfl rfl g43) (S.qn rfl (r_move rfl) ?_)
       iterate 4 refine S.skf rfl rfl ?_
       refine S.qn rfl (r_pick rfl rfl rfl) (S.qn rfl (r_move rfl) ?_)
       iterate 3 refine S.skf rfl rfl ?_
       iterate 9 refine S.sk rfl rfl rfl (wanted_undef rfl rfl rfl) ?_
       refine S.skf rfl rfl (S.qn rfl (r_pick rfl rfl rfl) (S.nil (F.nil ?_)))
       cases hE_3
       refine Nrm.only [1, 3, 75] rfl ?_
       refine Nrm.pick [1] rfl rfl ?_
       exact hj_2 _ _ ⟨rfl, rfl⟩
      ·replace hE_3 := if_ff g43 hE_3
       obtain ⟨t52, h52, hE_3⟩ := bind_some hE_3
       rcases Bool.eq_false_or_eq_true (!t52) with g55 | g55
       ·replace hE_3 := if_tt g55 hE_3
        refine Tri.drawA mixedT Sep.up [(0, true), (1, true), (2, true), (3, true), (4, true), (5, true), (6, true), (7, true), (8, true), (9, true), (10, true), (11, true), (12, true), (13, true), (14, true), (15, true), (16, true), (17, true), (18, true), (19, true), (20, true), (21, true), (22, true), (23, true), (24, true), (25, true), (26, true), (27, true), (28, true), (29, true), (30, true), (31, true), (32, true), (33, true), (34, true), (35, true), (36, true), (37, true), (38, true), (39, true)] [] (by kernel_rfl) ?_
        refine S.qn rfl (r_indexAddrA Tryz.underlying168 ti3 rfl rfl (by decide) (by decide)) (S.qn rfl (r_load ta3 rfl (fun w hw => cell_1 (box_cells (i := 0) rfl w hw) rfl)) (S.qn rfl (r_fieldAddr tf27_0 rfl) (S.qn rfl (r_load ta3 rfl (fun w hw => cell_1 (box_cells (i := 1) rfl w hw) rfl)) (S.qn rfl (r_sub rfl rfl) ?_))))
        refine S.qcn rfl (q_callF (xs := _) rfl ok148 rfl rfl (fun w hw => spec_l1In.ok h41 w )) ?_
        refine S.qn rfl (r_not rfl) (S.qn rfl (r_move rfl) (S.qg rfl g43 (r_indexAddrA Tryz.underlying168 ti3 rfl rfl (by decide) (by decide)) (S.qg rfl g43 (r_load ta3 rfl (fun w hw => cell_1 (box_cells (i := 0) rfl w hw) rfl)) ?_)))
        refine S.qg rfl g43 (r_indexAddrA Tryz.underlying168 ti3 rfl rfl (by decide) (by decide)) (S.qg rfl g43 (r_load ta3 rfl (fun w hw => cell_1 (box_cells (i := 0) rfl w hw) rfl)) (S.qg rfl g43 (r_add rfl rfl) (S.qg rfl g43 (r_fieldAddr tf27_0 rfl) (S.qg rfl g43 (r_load ta3 rfl (fun w hw => cell_1 (box_cells (i := 1) rfl w hw) rfl)) (S.qg rfl g43 (r_sub rfl rfl) ?_)))))
        refine S.qc rfl rfl rfl (wg rfl rfl rfl g43) (q_callF (xs := _) rfl ok148 rfl rfl (fun w hw => spec_l1In.ok h52 w )) ?_
        refine S.qg rfl g43 (r_not rfl) (S.qn rfl (r_pickf rfl rfl g43) (S.qn rfl (r_move rfl) ?_))
        iterate 4 refine S.skf rfl g55 ?_
        refine S.qn rfl (r_pick rfl rfl g55) (S.qn rfl (r_move rfl) ?_)
        iterate 3 refine S.skf rfl rfl ?_
        iterate 9 refine S.sk rfl rfl rfl (wanted_undef rfl rfl rfl) ?_
        refine S.skf rfl rfl (S.qn rfl (r_pick rfl rfl rfl) (S.nil (F.nil ?_)))
        cases hE_3
        refine Nrm.only [1, 3, 75] rfl ?_
        refine Nrm.pick [1] rfl rfl ?_
        exact hj_2 _ _ ⟨rfl, rfl⟩
       ·replace hE_3 := if_ff g55 hE_3
        obtain ⟨t58, h58, hE_3⟩ := bind_some hE_3
        rcases Bool.eq_false_or_eq_true (!t58) with g61 | g61
        ·replace hE_3 := if_tt g61 hE_3
         refine Tri.drawA mixedT Sep.up [(0, true), (1, true), (2, true), (3, true), (4, true), (5, true), (6, true), (7, true), (8, true), (9, true), (10, true), (11, true), (12, true), (13, true), (14, true), (15, true), (16, true), (17, true), (18, true), (19, true), (20, true), (21, true), (22, true), (23, true), (24, true), (25, true), (26, true), (27, true), (28, true), (29, true), (30, true), (31, true), (32, true), (33, true), (34, true), (35, true), (36, true), (37, true), (38, true), (39, true)] [] (by kernel_rfl) ?_
         refine S.qn rfl (r_indexAddrA Tryz.underlying168 ti3 rfl rfl (by decide) (by decide)) (S.qn rfl (r_load ta3 rfl (fun w hw => cell_1 (box_cells (i := 0) rfl w hw) rfl)) (S.qn rfl (r_fieldAddr tf27_0 rfl) (S.qn rfl (r_load ta3 rfl (fun w hw => cell_1 (box_cells (i := 1) rfl w hw) rfl)) (S.qn rfl (r_sub rfl rfl) ?_))))
         refine S.qcn rfl (q_callF (xs := _) rfl ok148 rfl rfl (fun w hw => spec_l1In.ok h41 w )) ?_
         refine S.qn rfl (r_not rfl) (S.qn rfl (r_move rfl) (S.qg rfl g43 (r_indexAddrA Tryz.underlying168 ti3 rfl rfl (by decide) (by decide)) (S.qg rfl g43 (r_load ta3 rfl (fun w hw => cell_1 (box_cells (i := 0) rfl w hw) rfl)) ?_)))
         refine S.qg rfl g43 (r_indexAddrA Tryz.underlying168 ti3 rfl rfl (by decide) (by decide)) (S.qg rfl g43 (r_load ta3 rfl (fun w hw => cell_1 (box_cells (i := 0) rfl w hw) rfl)) (S.qg rfl g43 (r_add rfl rfl) (S.qg rfl g43 (r_fieldAddr tf27_0 rfl) (S.qg rfl g43 (r_load ta3 rfl (fun w hw => cell_1 (box_cells (i := 1) rfl w hw) rfl)) (S.qg rfl g43 (r_sub rfl rfl) ?_)))))
         refine S.qc rfl rfl rfl (wg rfl rfl rfl g43) (q_callF (xs := _) rfl ok148 rfl rfl (fun w hw => spec_l1In.ok h52 w )) ?_
         refine S.qg rfl g43 (r_not rfl) (S.qn rfl (r_pickf rfl rfl g43) (S.qn rfl (r_move rfl) (S.qg rfl g55 (r_indexAddrA Tryz.underlying168 ti3 rfl rfl (by decide) (by decide)) (S.qg rfl g55 (r_load ta3 rfl (fun w hw => cell_1 (box_cells (i := 0) rfl w hw) rfl)) ?_))))
         refine S.qc rfl rfl rfl (wg rfl rfl rfl g55) (q_callF (xs := _) rfl ok178 rfl rfl (fun w hw => spec_l2Set.ok h58 w )) ?_
         refine S.qg rfl g55 (r_not rfl) (S.qn rfl (r_pickf rfl rfl g55) (S.qn rfl (r_move rfl) ?_))
         iterate 3 refine S.skf rfl g61 ?_
         iterate 9 refine S.sk rfl rfl rfl (wanted_undef rfl rfl rfl) ?_
         refine S.skf rfl g61 (S.qn rfl (r_pick rfl rfl g61) (S.nil (F.nil ?_)))
         cases hE_3
         refine Nrm.only [1, 3, 75] rfl ?_
         refine Nrm.pick [1] rfl rfl ?_
         exact hj_2 _ _ ⟨rfl, rfl⟩
        ·replace hE_3 := if_ff g61 hE_3
         rcases Bool.eq_false_or_eq_true (decide (x3 > 0)) with g64 | g64
         ·replace hE_3 := if_tt g64 hE_3
          obtain ⟨t69, h69, hE_3⟩ := bind_some hE_3
          obtain ⟨t72, h72, hE_3⟩ := bind_some hE_3
          refine Tri.drawA mixedT Sep.up [(0, true), (1, true), (2, true), (3, true), (4, true), (5, true), (6, true), (7, true), (8, true), (9, true), (10, true), (11, true), (12, true), (13, true), (14, true), (15, true), (16, true), (17, true), (18, true), (19, true), (20, true), (21, true), (22, true), (23, true), (24, true), (25, true), (26, true), (27, true), (28, true), (29, true), (30, true), (31, true), (32, true), (33, true), (34, true), (35, true), (36, true), (37, true), (38, true), (39, true)] [] (by kernel_rfl) ?_
          refine S.qn rfl (r_indexAddrA Tryz.underlying168 ti3 rfl rfl (by decide) (by decide)) (S.qn rfl (r_load ta3 rfl (fun w hw => cell_1 (box_cells (i := 0) rfl w hw) rfl)) (S.qn rfl (r_fieldAddr tf27_0 rfl) (S.qn rfl (r_load ta3 rfl (fun w hw => cell_1 (box_cells (i := 1) rfl w hw) rfl)) (S.qn rfl (r_sub rfl rfl) ?_))))
          refine S.qcn rfl (q_callF (xs := _) rfl ok148 rfl rfl (fun w hw => spec_l1In.ok h41 w )) ?_
          refine S.qn rfl (r_not rfl) (S.qn rfl (r_move rfl) (S.qg rfl g43 (r_indexAddrA Tryz.underlying168 ti3 rfl rfl (by decide) (by decide)) (S.qg rfl g43 (r_load ta3 rfl (fun w hw => cell_1 (box_cells (i := 0) rfl w hw) rfl)) ?_)))
          refine S.qg rfl g43 (r_indexAddrA Tryz.underlying168 ti3 rfl rfl (by decide) (by decide)) (S.qg rfl g43 (r_load ta3 rfl (fun w hw => cell_1 (box_cells (i := 0) rfl w hw) rfl)) (S.qg rfl g43 (r_add rfl rfl) (S.qg rfl g43 (r_fieldAddr tf27_0 rfl) (S.qg rfl g43 (r_load ta3 rfl (fun w hw => cell_1 (box_cells (i := 1) rfl w hw) rfl)) (S.qg rfl g43 (r_sub rfl rfl) ?_)))))
          refine S.qc rfl rfl rfl (wg rfl rfl rfl g43) (q_callF (xs := _) rfl ok148 rfl rfl (fun w hw => spec_l1In.ok h52 w )) ?_
          refine S.qg rfl g43 (r_not rfl) (S.qn rfl (r_pickf rfl rfl g43) (S.qn rfl (r_move rfl) (S.qg rfl g55 (r_indexAddrA Tryz.underlying168 ti3 rfl rfl (by decide) (by decide)) (S.qg rfl g55 (r_load ta3 rfl (fun w hw => cell_1 (box_cells (i := 0) rfl w hw) rfl)) ?_))))
          refine S.qc rfl rfl rfl (wg rfl rfl rfl g55) (q_callF (xs := _) rfl ok178 rfl rfl (fun w hw => spec_l2Set.ok h58 w )) ?_
          refine S.qg rfl g55 (r_not rfl) ?_
          refine S.qn rfl (r_pickf rfl rfl g55) (S.qn rfl (r_move rfl) (S.qg rfl g61 (r_move rfl) (S.qg rfl g61 (r_gtr rfl rfl) (S.qg rfl g61 (r_move rfl) (S.qg rfl g64 (r_fieldAddr tf27_1 rfl) ?_)))))
          refine S.qg rfl g64 (r_load ta24 rfl (fun w hw => cell_1 (box_cells (i := 1) rfl w hw) rfl)) (S.qg rfl g64 (r_move rfl) (S.qg rfl g64 (r_sub rfl rfl) (S.qg rfl g64 (r_indexAddrS Tryz.underlying24 ti168 rfl hl_va0_1 rfl (rdl_some h69).1 (rdl_some h69).2.1) (S.qg rfl g64 (r_loadA ta168 ti168 rfl rfl (fun w hw => (Rd.flat ((fun _ hw => hr_a0_1.sep hw) w hw) (rdl_some h69).2.2))) (S.qg rfl g64 (r_loadA ta168 ti168 rfl rfl (fun w hw => (box_cells (i := 0) rfl w hw))) ?_)))))
          refine S.qc rfl rfl rfl (wg rfl rfl rfl g64) (q_callF (xs := _) rfl ok196 rfl rfl (fun w hw => spec_l2Before.ok h72 w )) ?_
          refine S.qg rfl g64 (r_not rfl) (S.qg rfl g61 (r_pick rfl rfl g64) (S.qn rfl (r_pickf rfl rfl g61) (S.nil (F.nil ?_))))
          cases hE_3
          refine Nrm.only [1, 3, 75] rfl ?_
          refine Nrm.pick [1] rfl rfl ?_
          exact hj_2 _ _ ⟨rfl, rfl⟩
         ·replace hE_3 := if_ff g64 hE_3
          refine Tri.drawA mixedT Sep.up [(0, true), (1, true), (2, true), (3, true), (4, true), (5, true), (6, true), (7, true), (8, true), (9, true), (10, true), (11, true), (12, true), (13, true), (14, true), (15, true), (16, true), (17, true), (18, true), (19, true), (20, true), (21, true), (22, true), (23, true), (24, true), (25, true), (26, true), (27, true), (28, true), (29, true), (30, true), (31, true), (32, true), (33, true), (34, true), (35, true), (36, true), (37, true), (38, true), (39, true)] [] (by kernel_rfl) ?_
          refine S.qn rfl (r_indexAddrA Tryz.underlying168 ti3 rfl rfl (by decide) (by decide)) (S.qn rfl (r_load ta3 rfl (fun w hw => cell_1 (box_cells (i := 0) rfl w hw) rfl)) (S.qn rfl (r_fieldAddr tf27_0 rfl) (S.qn rfl (r_load ta3 rfl (fun w hw => cell_1 (box_cells (i := 1) rfl w hw) rfl)) (S.qn rfl (r_sub rfl rfl) ?_))))
          refine S.qcn rfl (q_callF (xs := _) rfl ok148 rfl rfl (fun w hw => spec_l1In.ok h41 w )) ?_
          refine S.qn rfl (r_not rfl) (S.qn rfl (r_move rfl) (S.qg rfl g43 (r_indexAddrA Tryz.underlying168 ti3 rfl rfl (by decide) (by decide)) (S.qg rfl g43 (r_load ta3 rfl (fun w hw => cell_1 (box_cells (i := 0) rfl w hw) rfl)) ?_)))
          refine S.qg rfl g43 (r_indexAddrA Tryz.underlying168 ti3 rfl rfl (by decide) (by decide)) (S.qg rfl g43 (r_load ta3 rfl (fun w hw => cell_1 (box_cells (i := 0) rfl w hw) rfl)) (S.qg rfl g43 (r_add rfl rfl) (S.qg rfl g43 (r_fieldAddr tf27_0 rfl) (S.qg rfl g43 (r_load ta3 rfl (fun w hw => cell_1 (box_cells (i := 1) rfl w hw) rfl)) (S.qg rfl g43 (r_sub rfl rfl) ?_)))))
          refine S.qc rfl rfl rfl (wg rfl rfl rfl g43) (q_callF (xs := _) rfl ok148 rfl rfl (fun w hw => spec_l1In.ok h52 w )) ?_
          refine S.qg rfl g43 (r_not rfl) (S.qn rfl (r_pickf rfl rfl g43) (S.qn rfl (r_move rfl) (S.qg rfl g55 (r_indexAddrA Tryz.underlying168 ti3 rfl rfl (by decide) (by decide)) (S.qg rfl g55 (r_load ta3 rfl (fun w hw => cell_1 (box_cells (i := 0) rfl w hw) rfl)) ?_))))
          refine S.qc rfl rfl rfl (wg rfl rfl rfl g55) (q_callF (xs := _) rfl ok178 rfl rfl (fun w hw => spec_l2Set.ok h58 w )) ?_
          refine S.qg rfl g55 (r_not rfl) (S.qn rfl (r_pickf rfl rfl g55) (S.qn rfl (r_move rfl) (S.qg rfl g61 (r_move rfl) (S.qg rfl g61 (r_gtr rfl rfl) (S.qg rfl g61 (r_move rfl) ?_)))))
          iterate 9 refine S.skf rfl g64 ?_
          refine S.qg rfl g61 (r_pickf rfl rfl g64) (S.qn rfl (r_pickf rfl rfl g61) (S.nil (F.nil ?_)))
          cases hE_3
          refine Nrm.only [1, 3, 75] rfl ?_
          refine Nrm.pick [1] rfl rfl ?_
          exact hj_2 _ _ ⟨rfl, rfl⟩
    ·replace hE_2 := if_ff g_2 hE_2
     refine Tri.exit ?_
     refine Exi.then ?_
     refine Exi.then ?_
     refine Exi.same ?_
     cases hE_2
     replace h := Lr_inl h
     refine Nrm.seq (Tri.seq (Tri.seq (Tri.reg (l := [0]) rfl ?_)))
     refine F.qn rfl (r_assign rfl) (F.nil (Nrm.seq ?_))
     obtain ⟨s1, hE_4, h⟩ := bind_some h
     refine Tri.block ?_
     refine Tri.only [1, 5] rfl ?_
     refine Tri.pick [0] rfl rfl ?_
     refine Tri.rounds (fun n e' C' => ∃ (x5' : Int), spec_l2Maze.l1 k a0_0 a0_2 n x5' = some s1 ∧ e' = [(1, .pointer (some ⟨b1_1, 0, none⟩)), (5, .int .i64 x5')] ∧ C' = Sep w noM [R.box b1_1 27 [.int .i64 a0_0, va0_1, va0_2]]) k ?_ ?_ ?_
     ·exact ⟨0, hE_4, rfl, rfl⟩
     ·rintro _ _ ⟨_, hE_4, _⟩
      rw [spec_l2Maze.l1.eq_1] at hE_4; cases hE_4
     ·rintro n_2 _ _ ⟨x5, hE_4, rfl, rfl⟩ ih_2
      rw [spec_l2Maze.l1.eq_2] at hE_4
      refine Tri.seq (Tri.seq (Tri.reg (l := [0, 1, 2, 3]) rfl ?_))
      refine F.qn rfl (r_move rfl) (F.qn rfl (r_fieldAddr tf27_0 rfl) (F.qn rfl (r_load ta3 rfl (fun w hw => cell_1 (box_cells (i := 0) rfl w hw) rfl)) (F.qn rfl (r_lss rfl rfl) (F.nil (Nrm.seq (Tri.cond (b := decide (x5 < a0_0)) rfl (fun g_4 => ?_) (fun g_4 => ?_)))))))
      ·replace hE_4 := if_tt g_4 hE_4
       refine Tri.skip (Nrm.seq (Tri.seq (Tri.block ?_)))
       refine Tri.seq ?_
       obtain ⟨t85, h85, hE_4⟩ := bind_some hE_4
       obtain ⟨t87, h87, hE_4⟩ := bind_some hE_4
       refine Tri.reg (l := [0, 1, 2, 3, 4, 5, 6]) rfl ?_
       refine F.qn rfl (r_fieldAddr tf27_2 rfl) (F.qn rfl (r_load ta25 rfl (fun w hw => cell_1 (box_cells (i := 0) rfl w hw) rfl)) (F.qn rfl (r_move rfl) (F.qn rfl (r_indexAddrS Tryz.underlying25 ti3 rfl hl_va0_2 rfl (rdl_some h85).1 (rdl_some h85).2.1) (F.qn rfl (r_load ta3 rfl (fun w hw => cell_0 (Rd.flat ((fun _ hw => hr_a0_2.sep hw) w hw) (rdl_some h85).2.2) rfl)) ?_))))
       refine F.qcn rfl (q_callF (xs := _) rfl ok178 rfl rfl (fun w hw => spec_l2Set.ok h87 w )) ?_
       refine F.qn rfl (r_not rfl) (F.nil (Nrm.seq (Tri.cond (b := !t87) rfl (fun g_5 => ?_) (fun g_5 => ?_))))
       ·replace hE_4 := if_tt g_5 hE_4
        refine Tri.seq (Tri.reg (l := [0]) rfl ?_)
        refine F.qn rfl (r_assign rfl) (F.nil (Nrm.seq (Tri.ret ?_)))
        refine Rtn.block ?_
        refine Rtn.then ?_
        refine Rtn.then ?_
        refine Rtn.block ?_
        refine Rtn.then ?_
        cases hE_4
        replace h := Lr_inr h
        cases h
        exact Rtn.body (.tmp rfl .nil) (fun w hw => ⟨rfl, hw.ext⟩)
       ·replace hE_4 := if_ff g_5 hE_4
        refine Tri.skip (Nrm.block ?_)
        refine Nrm.seq (Tri.reg (l := [0, 1, 2]) rfl ?_)
        refine F.qn rfl (r_move rfl) (F.qn rfl (r_add rfl rfl) (F.qn rfl (r_assign rfl) (F.nil (Nrm.round ?_))))
        refine Rnd.only [1, 5] rfl ?_
        refine Rnd.pick [0] rfl rfl ?_
        exact ih_2 _ _ ⟨w64 (x5 + 1), hE_4, rfl, rfl⟩
      ·replace hE_4 := if_ff g_4 hE_4
       refine Tri.exit ?_
       refine Exi.then ?_
       refine Exi.then ?_
       refine Exi.same ?_
       cases hE_4
       replace h := Lr_inl h
       refine Nrm.seq (Tri.seq (Tri.reg (l := [0]) rfl ?_))
       refine F.qn rfl (r_assign rfl) (F.nil (Nrm.seq (Tri.ret ?_)))
       cases h
       exact Rtn.body (.tmp rfl .nil) (fun w hw => ⟨rfl, hw.ext⟩)
 ·obtain ⟨t8, h8, hE_1⟩ := bind_some hE_1
  rcases Bool.eq_false_or_eq_true (!t8) with g10 | g10
  ·replace hE_1 := if_tt g10 hE_1
   refine Tri.reg (l := List.range 18) rfl ?_
   refine F.qn rfl (r_fieldAddr tf27_0 rfl) (F.qn rfl (r_load ta3 rfl (fun w hw => cell_1 (box_cells (i := 0) rfl w hw) rfl)) ?_)
   refine F.qcn rfl (q_callF (xs := _) rfl ok148 rfl rfl (fun w hw => spec_l1In.ok h8 w )) ?_
   refine F.qn rfl (r_not rfl) (F.qn rfl (r_move rfl) ?_)
   iterate 4 refine F.skf rfl g10 ?_
   refine F.qn rfl (r_pick rfl rfl g10) (F.qn rfl (r_move rfl) ?_)
   iterate 6 refine F.skf rfl rfl ?_
   refine F.qn rfl (r_pick rfl rfl rfl) (F.nil ?_)
   cases hE_1
   refine Nrm.only [1, 23] rfl ?_
   refine Nrm.pick [0] rfl rfl ?_
   exact hj_1 _ _ ⟨rfl, rfl⟩
  ·replace hE_1 := if_ff g10 hE_1
   rcases Bool.eq_false_or_eq_true (decide ((a0_1.length : Int) > 30)) with g16 | g16
   ·replace hE_1 := if_tt g16 hE_1
    refine Tri.reg (l := List.range 18) rfl ?_
    refine F.qn rfl (r_fieldAddr tf27_0 rfl) (F.qn rfl (r_load ta3 rfl (fun w hw => cell_1 (box_cells (i := 0) rfl w hw) rfl)) ?_)
    refine F.qcn rfl (q_callF (xs := _) rfl ok148 rfl rfl (fun w hw => spec_l1In.ok h8 w )) ?_
    refine F.qn rfl (r_not rfl) (F.qn rfl (r_move rfl) ?_)
    refine F.qg rfl g10 (r_fieldAddr tf27_1 rfl) (F.qg rfl g10 (r_load ta24 rfl (fun w hw => cell_1 (box_cells (i := 0) rfl w hw) rfl)) (F.qg rfl g10 (r_len Tryz.underlying24 rfl hl_va0_1) (F.qg rfl g10 (r_gtr rfl rfl) (F.qn rfl (r_pickf rfl rfl g10) (F.qn rfl (r_move rfl) ?_)))))
    iterate 6 refine F.skf rfl g16 ?_
    refine F.qn rfl (r_pick rfl rfl g16) (F.nil ?_)
    cases hE_1
    refine Nrm.only [1, 23] rfl ?_
    refine Nrm.pick [0] rfl rfl ?_
    exact hj_1 _ _ ⟨rfl, rfl⟩
   ·replace hE_1 := if_ff g16 hE_1
    refine Tri.reg (l := List.range 18) rfl ?_
    refine F.qn rfl (r_fieldAddr tf27_0 rfl) (F.qn rfl (r_load ta3 rfl (fun w hw => cell_1 (box_cells (i := 0) rfl w hw) rfl)) ?_)
    refine F.qcn rfl (q_callF (xs := _) rfl ok148 rfl rfl (fun w hw => spec_l1In.ok h8 w )) ?_
    refine F.qn rfl (r_not rfl) (F.qn rfl (r_move rfl) (F.qg rfl g10 (r_fieldAddr tf27_1 rfl) ?_))
    refine F.qg rfl g10 (r_load ta24 rfl (fun w hw => cell_1 (box_cells (i := 0) rfl w hw) rfl)) (F.qg rfl g10 (r_len Tryz.underlying24 rfl hl_va0_1) (F.qg rfl g10 (r_gtr rfl rfl) (F.qn rfl (r_pickf rfl rfl g10) (F.qn rfl (r_move rfl) (F.qg rfl g16 (r_fieldAddr tf27_2 rfl) ?_)))))
    refine F.qg rfl g16 (r_load ta25 rfl (fun w hw => cell_1 (box_cells (i := 0) rfl w hw) rfl)) (F.qg rfl g16 (r_len Tryz.underlying25 rfl hl_va0_2) (F.qg rfl g16 (r_fieldAddr tf27_0 rfl) (F.qg rfl g16 (r_load ta3 rfl (fun w hw => cell_1 (box_cells (i := 0) rfl w hw) rfl)) (F.qg rfl g16 (r_neq rfl rfl) (F.qn rfl (r_pickf rfl rfl g16) (F.nil ?_))))))
    cases hE_1
    refine Nrm.only [1, 23] rfl ?_
    refine Nrm.pick [0] rfl rfl ?_
    exact hj_1 _ _ ⟨rfl, rfl⟩


def spec_l3Ask.f (k : Nat) (a0_0 : Int) (a0_1 : List (Int × Int × Int)) (a0_2 : List Int) (a1 : Int) : Option (Bool) := ((spec_l2Maze.f k a0_0 a0_1 a0_2).bind fun t6 => (if t6 = true then (spec_l2Set.f k a1).bind fun t9 => some t9 else some false)).bind fun y4 => some y4

theorem spec_l3Ask.ok {k : Nat}  {a0_0 : Int} {a0_1 : List (Int × Int × Int)} {a0_2 : List Int} {a1 : Int} {r0 : Bool} (h : spec_l3Ask.f k a0_0 a0_1 a0_2 a1 = some r0) (w : World) {va0_1 : Value} {va0_2 : Value} (hr_a0_1 : Rd w va0_1 a0_1) (hr_a0_2 : Rd w va0_2 a0_2) :
  Calls Tryz.prog 97 ([.agg ([.int .i64 a0_0, va0_1, va0_2].toArray), .int .i64 a1] : List Value).toArray w (fun e w' => e = .returned (.bool r0) ∧ Ext w w') := by
 unfold spec_l3Ask.f at h
 have hl_va0_1 := hr_a0_1.len
 have hl_va0_2 := hr_a0_2.len
 refine Calls.of_tri (N := 11) Tryz.func97 rfl rfl rfl (Sep.nil (M := noM)) ?_
 refine Tri.seq (Tri.reg (l := [0, 1]) rfl ?_)
 refine F.mn rfl (m_boxG rfl rfl) ?_
 rintro _ _ ⟨b2_1, rfl, rfl⟩
 refine F.qn rfl (r_assign rfl) (F.nil (Nrm.seq (Tri.seq ?_)))
 obtain ⟨y4, hE_1, h⟩ := bind_some h
 refine Tri.cut (fun e' C' => e' = [(4, .bool y4)] ∧ C' = Sep w noM []) ?_ (fun hj_1 => ?_)
 ·rintro _ _ ⟨rfl, rfl⟩
  refine Nrm.seq (Tri.ret ?_)
  cases h
  exact Rtn.body (.tmp rfl .nil) (fun w hw => ⟨rfl, hw.ext⟩)
 ·obtain ⟨t6, h6, hE_1⟩ := bind_some hE_1
  rcases Bool.eq_false_or_eq_true (t6) with g7 | g7
  ·replace hE_1 := if_tt g7 hE_1
   obtain ⟨t9, h9, hE_1⟩ := bind_some hE_1
   refine Tri.reg (l := [0, 1, 2, 3, 4, 5, 6]) rfl ?_
   refine F.qn rfl (r_loadA ta27 ti27 rfl rfl (fun w hw => (box_cells (i := 0) rfl w hw))) ?_
   refine F.qcn rfl (q_callF (xs := _) rfl ok108 rfl rfl (fun w hw => spec_l2Maze.ok h6 w ((fun _ hw => hr_a0_1.sep hw) w hw) ((fun _ hw => hr_a0_2.sep hw) w hw))) ?_
   refine F.qn rfl (r_move rfl) (F.qg rfl g7 (r_move rfl) ?_)
   refine F.qc rfl rfl rfl (wg rfl rfl rfl g7) (q_callF (xs := _) rfl ok178 rfl rfl (fun w hw => spec_l2Set.ok h9 w )) ?_
   refine F.qn rfl (r_pick rfl rfl g7) (F.qn rfl (r_assign rfl) (F.nil ?_))
   cases hE_1
   refine Nrm.only [4] rfl ?_
   refine Nrm.pick [] rfl rfl ?_
   exact hj_1 _ _ ⟨rfl, rfl⟩
  ·replace hE_1 := if_ff g7 hE_1
   refine Tri.reg (l := [0, 1, 2, 3, 4, 5, 6]) rfl ?_
   refine F.qn rfl (r_loadA ta27 ti27 rfl rfl (fun w hw => (box_cells (i := 0) rfl w hw))) ?_
   refine F.qcn rfl (q_callF (xs := _) rfl ok108 rfl rfl (fun w hw => spec_l2Maze.ok h6 w ((fun _ hw => hr_a0_1.sep hw) w hw) ((fun _ hw => hr_a0_2.sep hw) w hw))) ?_
   refine F.qn rfl (r_move rfl) (F.skf rfl g7 (F.skf rfl g7 (F.qn rfl (r_pickf rfl rfl g7) (F.qn rfl (r_assign rfl) (F.nil ?_)))))
   cases hE_1
   refine Nrm.only [4] rfl ?_
   refine Nrm.pick [] rfl rfl ?_
   exact hj_1 _ _ ⟨rfl, rfl⟩


def spec_l3Can.f (k : Nat) (a0_0 : Int) (a0_1 : List (Int × Int × Int)) (a0_2 : List Int) (a1 : Int) : Option (Bool) := ((spec_l3Ask.f k a0_0 a0_1 a0_2 a1).bind fun t7 => (if t7 = true then (spec_l3Wins.f k a0_0 a0_1 a0_2 a1).bind fun t11 => some t11 else some false)).bind fun y4 => some y4

theorem spec_l3Can.ok {k : Nat}  {a0_0 : Int} {a0_1 : List (Int × Int × Int)} {a0_2 : List Int} {a1 : Int} {r0 : Bool} (h : spec_l3Can.f k a0_0 a0_1 a0_2 a1 = some r0) (w : World) {va0_1 : Value} {va0_2 : Value} (hr_a0_1 : Rd w va0_1 a0_1) (hr_a0_2 : Rd w va0_2 a0_2) :
  Calls Tryz.prog 87 ([.agg ([.int .i64 a0_0, va0_1, va0_2].toArray), .int .i64 a1] : List Value).toArray w (fun e w' => e = .returned (.bool r0) ∧ Ext w w') := by
 unfold spec_l3Can.f at h
 have hl_va0_1 := hr_a0_1.len
 have hl_va0_2 := hr_a0_2.len
 refine Calls.of_tri (N := 13) Tryz.func87 rfl rfl rfl (Sep.nil (M := noM)) ?_
 refine Tri.seq (Tri.reg (l := [0, 1]) rfl ?_)
 refine F.mn rfl (m_boxG rfl rfl) ?_
 rintro _ _ ⟨b2_1, rfl, rfl⟩
 refine F.qn rfl (r_assign rfl) (F.nil (Nrm.seq (Tri.seq ?_)))
 obtain ⟨y4, hE_1, h⟩ := bind_some h
 refine Tri.cut (fun e' C' => e' = [(4, .bool y4)] ∧ C' = Sep w noM []) ?_ (fun hj_1 => ?_)
 ·rintro _ _ ⟨rfl, rfl⟩
  refine Nrm.seq (Tri.ret ?_)
  cases h
  exact Rtn.body (.tmp rfl .nil) (fun w hw => ⟨rfl, hw.ext⟩)
 ·obtain ⟨t7, h7, hE_1⟩ := bind_some hE_1
  rcases Bool.eq_false_or_eq_true (t7) with g8 | g8
  ·replace hE_1 := if_tt g8 hE_1
   obtain ⟨t11, h11, hE_1⟩ := bind_some hE_1
   refine Tri.reg (l := [0, 1, 2, 3, 4, 5, 6, 7, 8]) rfl ?_
   refine F.qn rfl (r_loadA ta27 ti27 rfl rfl (fun w hw => (box_cells (i := 0) rfl w hw))) (F.qn rfl (r_move rfl) ?_)
   refine F.qcn rfl (q_callF (xs := _) rfl ok97 rfl rfl (fun w hw => spec_l3Ask.ok h7 w ((fun _ hw => hr_a0_1.sep hw) w hw) ((fun _ hw => hr_a0_2.sep hw) w hw))) ?_
   refine F.qn rfl (r_move rfl) (F.qg rfl g8 (r_loadA ta27 ti27 rfl rfl (fun w hw => (box_cells (i := 0) rfl w hw))) (F.qg rfl g8 (r_move rfl) ?_))
   refine F.qc rfl rfl rfl (wg rfl rfl rfl g8) (q_callF (xs := _) rfl ok88 rfl rfl (fun w hw => spec_l3Wins.ok h11 w ((fun _ hw => hr_a0_1.sep hw) w hw) ((fun _ hw => hr_a0_2.sep hw) w hw))) ?_
   refine F.qn rfl (r_pick rfl rfl g8) (F.qn rfl (r_assign rfl) (F.nil ?_))
   cases hE_1
   refine Nrm.only [4] rfl ?_
   refine Nrm.pick [] rfl rfl ?_
   exact hj_1 _ _ ⟨rfl, rfl⟩
  ·replace hE_1 := if_ff g8 hE_1
   refine Tri.reg (l := [0, 1, 2, 3, 4, 5, 6, 7, 8]) rfl ?_
   refine F.qn rfl (r_loadA ta27 ti27 rfl rfl (fun w hw => (box_cells (i := 0) rfl w hw))) (F.qn rfl (r_move rfl) ?_)
   refine F.qcn rfl (q_callF (xs := _) rfl ok97 rfl rfl (fun w hw => spec_l3Ask.ok h7 w ((fun _ hw => hr_a0_1.sep hw) w hw) ((fun _ hw => hr_a0_2.sep hw) w hw))) ?_
   refine F.qn rfl (r_move rfl) ?_
   iterate 3 refine F.skf rfl g8 ?_
   refine F.qn rfl (r_pickf rfl rfl g8) (F.qn rfl (r_assign rfl) (F.nil ?_))
   cases hE_1
   refine Nrm.only [4] rfl ?_
   refine Nrm.pick [] rfl rfl ?_
   exact hj_1 _ _ ⟨rfl, rfl⟩


def spec_l1Own.f (k : Nat) (a0 : List Int) : Option ((List Int)) := if (([] : List (Int)) ++ a0).length < 1099511627776 then some (([] : List (Int)) ++ a0) else none

theorem spec_l1Own.ok {k : Nat}  {a0 : List Int} {r0 : List Int} (h : spec_l1Own.f k a0 = some r0) (w : World) {va0 : Value} (hr_a0 : Rd w va0 a0) :
  Calls Tryz.prog 197 ([va0] : List Value).toArray w (Post (fun u ns => ∃ (Sr0 : Nat → Prop), SlLen u r0.length ∧ ns = [R.sl Sr0 u r0]) w) := by
 unfold spec_l1Own.f at h
 have hl_va0 := hr_a0.len
 refine Calls.of_tri (N := 6) Tryz.func197 rfl rfl rfl (Sep.nil (M := noM)) ?_
 refine Tri.seq (Tri.reg (l := [0]) rfl ?_)
 refine F.qn rfl (r_assign rfl) (F.nil (Nrm.seq (Tri.seq ?_)))
 obtain ⟨hs5, h⟩ := ck h
 refine Tri.reg (l := [0, 1, 2, 3]) rfl ?_
 refine F.mn rfl (m_build0 (α := Int) Tryz.underlying25 ti3) ?_
 rintro v3_1 _ ⟨S3_1, hl_v3_1, rfl⟩
 refine F.qn rfl (r_move rfl) ?_
 refine F.efn rfl (d_append (i := 0) Tryz.underlying25 Tryz.underlying25 ti3 rfl (by decide) rfl rfl rfl (fun _ hw => hr_a0.sep hw) hs5) ?_
 rintro v5_1 _ ⟨S5_1, rfl, hl_v5_1⟩
 refine F.qn rfl (r_assign rfl) (F.nil (Nrm.seq (Tri.ret ?_)))
 cases h
 exact Rtn.body (.tmp rfl .nil) (fun w hw => ⟨_, _, rfl, ⟨S5_1, hl_v5_1, rfl⟩, Sep.pick (is := [0]) rfl rfl hw⟩)


def spec_l2Own.f (k : Nat) (a0_0 : Int) (a0_1 : List (Int × Int × Int)) (a0_2 : List Int) : Option (Int × (List (Int × Int × Int)) × (List Int)) := if (([] : List (Int × Int × Int)) ++ a0_1).length < 1099511627776 then (spec_l1Own.f k a0_2).bind fun t11 => some (a0_0, ([] : List (Int × Int × Int)) ++ a0_1, t11) else none

theorem spec_l2Own.ok {k : Nat}  {a0_0 : Int} {a0_1 : List (Int × Int × Int)} {a0_2 : List Int} {r0 : Int} {r1 : List (Int × Int × Int)} {r2 : List Int} (h : spec_l2Own.f k a0_0 a0_1 a0_2 = some (r0, r1, r2)) (w : World) {va0_1 : Value} {va0_2 : Value} (hr_a0_1 : Rd w va0_1 a0_1) (hr_a0_2 : Rd w va0_2 a0_2) :
  Calls Tryz.prog 141 ([.agg ([.int .i64 a0_0, va0_1, va0_2].toArray)] : List Value).toArray w (Post (fun u ns => ∃ (ur1 : Value) (Sr1 : Nat → Prop) (ur2 : Value) (Sr2 : Nat → Prop), u = .agg [.int .i64 r0, ur1, ur2].toArray ∧ SlLen ur1 r1.length ∧ SlLen ur2 r2.length ∧ ns = [R.sl Sr1 ur1 r1, R.sl Sr2 ur2 r2]) w) := by
 unfold spec_l2Own.f at h
 have hl_va0_1 := hr_a0_1.len
 have hl_va0_2 := hr_a0_2.len
 refine Calls.of_tri (N := 13) Tryz.func141 rfl rfl rfl (Sep.nil (M := noM)) ?_
 refine Tri.seq (Tri.reg (l := [0, 1]) rfl ?_)
 refine F.mn rfl (m_boxG rfl rfl) ?_
 rintro _ _ ⟨b1_1, rfl, rfl⟩
 refine F.mn rfl (m_alloc ti27) ?_
 rintro _ _ ⟨b2_1, rfl, rfl⟩
 refine F.nil (Nrm.seq (Tri.seq ?_))
 obtain ⟨hs8, h⟩ := ck h
 obtain ⟨t11, h11, h⟩ := bind_some h
 refine Tri.drawB mixedT Sep.up [(0, true), (1, true), (3, true), (4, true), (6, true), (7, true), (2, false), (5, false), (8, false)] [9, 10] (by kernel_rfl) ?_
 refine B.q rfl rfl rfl (wanted_none rfl) (r_fieldAddr tf27_0 rfl) ?_
 refine B.q rfl rfl rfl (wanted_none rfl) (r_load ta3 rfl (fun w hw => cell_1 (box_cells (i := 1) rfl w hw) rfl)) ?_
 refine B.q rfl rfl rfl (wanted_none rfl) (r_fieldAddr tf27_1 rfl) ?_
 refine B.q rfl rfl rfl (wanted_none rfl) (r_load ta24 rfl (fun w hw => cell_1 (box_cells (i := 1) rfl w hw) rfl)) ?_
 refine B.q rfl rfl rfl (wanted_none rfl) (r_fieldAddr tf27_2 rfl) ?_
 refine B.q rfl rfl rfl (wanted_none rfl) (r_load ta25 rfl (fun w hw => cell_1 (box_cells (i := 1) rfl w hw) rfl)) ?_
 refine B.ef rfl rfl rfl (wanted_none rfl) (Makes.does (m_build0 (α := Int × Int × Int) Tryz.underlying24 ti168)) (by rintro v5_2 _ ⟨S5_2, hl_v5_2, rfl⟩; exact upd rfl [1, 2] rfl rfl) ?_
 rintro v5_2 _ ⟨S5_2, hl_v5_2, rfl⟩
 refine B.ef rfl rfl rfl (wanted_none rfl) (d_append (i := 0) Tryz.underlying24 Tryz.underlying24 ti168 rfl (by decide) rfl rfl rfl (fun _ hw => hr_a0_1.sep hw) hs8) (by rintro v8_2 _ ⟨S8_2, rfl, hl_v8_2⟩; exact upd rfl [1, 2] rfl rfl) ?_
 rintro v8_2 _ ⟨S8_2, rfl, hl_v8_2⟩
 refine B.ef rfl rfl rfl (wanted_none rfl) (Makes.does (m_callF (xs := _) rfl ok197 rfl rfl (fun w hw => spec_l1Own.ok h11 w ((fun _ hw => hr_a0_2.sep hw) w hw)))) (by rintro v11_2 _ ⟨_, ⟨S11_2, hl_v11_2, rfl⟩, rfl⟩; exact upd rfl [2, 3] rfl rfl) ?_
 rintro v11_2 _ ⟨_, ⟨S11_2, hl_v11_2, rfl⟩, rfl⟩
 refine B.nil ?_
 refine F.qn rfl (r_build (pl := [(0, 1), (1, 1), (2, 1)]) (qs := [(0, [.int .i64 a0_0]), (1, [v8_2]), (2, [v11_2])]) (cs := [.int .i64 a0_0, v8_2, v11_2]) (by kernel_rfl) ti27 rfl (.cons rfl rfl (Nat.le_of_ble_eq_true rfl) (.cons (sl_cells hl_v8_2) rfl (Nat.le_of_ble_eq_true rfl) (.cons (sl_cells hl_v11_2) rfl (Nat.le_of_ble_eq_true rfl) .nil))) rfl rfl) ?_
 refine F.ef0 rfl rfl (wanted_none rfl) (d_storeG0 (i := 2) (cs2 := [.int .i64 a0_0, v8_2, v11_2]) ti27 rfl rfl rfl rfl rfl (Nat.le_of_ble_eq_true rfl) (lf_cons rfl (lf_cons (sl_leaf hl_v8_2) (lf_cons (sl_leaf hl_v11_2) lf_nil)))) ?_
 rintro _ _ ⟨rfl, rfl⟩
 refine F.nil (Nrm.seq (Tri.ret ?_))
 cases h
 exact Rtn.body (.cell rfl ta27 ti27 rfl (fun _ hw => box_cells (i := 2) rfl _ hw) .nil) (fun w hw => ⟨_, _, rfl, ⟨v8_2, S8_2, v11_2, S11_2, rfl, hl_v8_2, hl_v11_2, rfl⟩, Sep.pick (is := [1, 0]) rfl rfl hw⟩)


def spec_l3Node.l0 (k : Nat) (a0_1 : List (Int × Int × Int)) (a1 : Int) : Nat → Int → (List (Int × Int × Int)) → Option ((List (Int × Int × Int)))
 | 0, _, _ => none
 | n + 1, x6, xq5_1_1 => (if (decide (x6 < (a0_1.length : Int))) = true then ((rdl a0_1 x6).bind fun t21 => (if (t21.1 != a1) = true then (rdl a0_1 x6).bind fun t30 => some (t30.2.1 != a1) else some false)).bind fun y35 => ((if y35 = true then (rdl a0_1 x6).bind fun t41 => if (xq5_1_1 ++ ([t41] : List (Int × Int × Int))).length < 1099511627776 then some (xq5_1_1 ++ ([t41] : List (Int × Int × Int))) else none else some xq5_1_1)).bind fun yb5_1_1 => spec_l3Node.l0 k a0_1 a1 n (w64 (x6 + 1)) yb5_1_1 else some xq5_1_1)

def spec_l3Node.f (k : Nat) (a0_0 : Int) (a0_1 : List (Int × Int × Int)) (a0_2 : List Int) (a1 : Int) : Option (Int × (List (Int × Int × Int)) × (List Int)) := (spec_l2Own.f k a0_0 a0_1 a0_2).bind fun (t8_1, t8_2, t8_3) => (spec_l3Node.l0 k a0_1 a1 k 0 ([] : List (Int × Int × Int))).bind fun xq5_1_1 => some (t8_1, xq5_1_1, t8_3)

theorem spec_l3Node.ok {k : Nat}  {a0_0 : Int} {a0_1 : List (Int × Int × Int)} {a0_2 : List Int} {a1 : Int} {r0 : Int} {r1 : List (Int × Int × Int)} {r2 : List Int} (h : spec_l3Node.f k a0_0 a0_1 a0_2 a1 = some (r0, r1, r2)) (w : World) {va0_1 : Value} {va0_2 : Value} (hr_a0_1 : Rd w va0_1 a0_1) (hr_a0_2 : Rd w va0_2 a0_2) :
  Calls Tryz.prog 89 ([.agg ([.int .i64 a0_0, va0_1, va0_2].toArray), .int .i64 a1] : List Value).toArray w (Post (fun u ns => ∃ (ur1 : Value) (Sr1 : Nat → Prop) (ur2 : Value) (Sr2 : Nat → Prop), u = .agg [.int .i64 r0, ur1, ur2].toArray ∧ SlLen ur1 r1.length ∧ SlLen ur2 r2.length ∧ ns = [R.sl Sr1 ur1 r1, R.sl Sr2 ur2 r2]) w) := by
 unfold spec_l3Node.f at h
 have hl_va0_1 := hr_a0_1.len
 have hl_va0_2 := hr_a0_2.len
 refine Calls.of_tri (N := 47) Tryz.func89 rfl rfl rfl (Sep.nil (M := noM)) ?_
 refine Tri.seq (Tri.reg (l := [0, 1]) rfl ?_)
 refine F.mn rfl (m_boxG rfl rfl) ?_
 rintro _ _ ⟨b2_1, rfl, rfl⟩
 refine F.mn rfl (m_alloc ti27) ?_
 rintro _ _ ⟨b4_1, rfl, rfl⟩
 refine F.nil (Nrm.seq (Tri.seq ?_))
 obtain ⟨⟨t8_1, t8_2, t8_3⟩, h8, h⟩ := bind_some h
 refine Tri.reg (l := [0, 1, 2, 3]) rfl ?_
 refine F.qn rfl (r_loadA ta27 ti27 rfl rfl (fun w hw => (box_cells (i := 1) rfl w hw))) ?_
 refine F.mn rfl (m_callF (xs := _) rfl ok141 rfl rfl (fun w hw => spec_l2Own.ok h8 w ((fun _ hw => hr_a0_1.sep hw) w hw) ((fun _ hw => hr_a0_2.sep hw) w hw))) ?_
 rintro _ _ ⟨_, ⟨v8_1, S8_1, v8_2, S8_2, rfl, hl_v8_1, hl_v8_2, rfl⟩, rfl⟩
 refine F.mn rfl (m_alloc ti27) ?_
 rintro _ _ ⟨b5_1, rfl, rfl⟩
 refine F.ef0 rfl rfl (wanted_none rfl) (d_storeG0 (i := 0) (cs2 := [.int .i64 t8_1, v8_1, v8_2]) ti27 rfl rfl rfl rfl rfl (Nat.le_of_ble_eq_true rfl) (lf_cons rfl (lf_cons (sl_leaf hl_v8_1) (lf_cons (sl_leaf hl_v8_2) lf_nil)))) ?_
 rintro _ _ ⟨rfl, rfl⟩
 refine F.nil (Nrm.seq (Tri.seq (Tri.reg (l := [0, 1, 2]) rfl ?_)))
 refine F.mn rfl (m_build0 (α := Int × Int × Int) Tryz.underlying24 ti168) ?_
 rintro v9_1 _ ⟨S9_1, hl_v9_1, rfl⟩
 refine F.qn rfl (r_fieldAddr tf27_1 rfl) ?_
 refine F.ef0 rfl rfl (wanted_none rfl) (d_storeG1 (i := 1) (cs2 := [v9_1]) ti24 rfl rfl rfl (sl_cells hl_v9_1) rfl (Nat.le_of_ble_eq_true rfl) (lf_cons (sl_leaf hl_v9_1) lf_nil)) ?_
 rintro _ _ ⟨rfl, rfl⟩
 refine F.nil (Nrm.seq (Tri.seq (Tri.seq (Tri.reg (l := [0]) rfl ?_))))
 refine F.qn rfl (r_assign rfl) (F.nil (Nrm.seq ?_))
 obtain ⟨xq5_1_1, hE_1, h⟩ := bind_some h
 refine Tri.block ?_
 refine Tri.only [1, 2, 4, 5, 6] rfl ?_
 refine Tri.pick [1, 4, 5, 0, 3] rfl rfl ?_
 refine Tri.rounds (fun n e' C' => ∃ (x6' : Int) (xq5_1_1' : List (Int × Int × Int)) (wq5_1_1 : Value) (Tq5_1_1 : Nat → Prop), spec_l3Node.l0 k a0_1 a1 n x6' xq5_1_1' = some xq5_1_1 ∧ SlLen wq5_1_1 (xq5_1_1').length ∧ e' = [(1, .int .i64 a1), (2, .pointer (some ⟨b2_1, 0, none⟩)), (4, .pointer (some ⟨b4_1, 0, none⟩)), (5, .pointer (some ⟨b5_1, 0, none⟩)), (6, .int .i64 x6')] ∧ C' = Sep w noM [R.box b5_1 27 [.int .i64 t8_1, wq5_1_1, v8_2], R.box b4_1 27 [.int .i64 0, .slice none 0 0, .slice none 0 0], R.box b2_1 27 [.int .i64 a0_0, va0_1, va0_2], R.sl Tq5_1_1 wq5_1_1 (xq5_1_1' : List (Int × Int × Int)), R.sl S8_2 v8_2 (t8_3 : List (Int))]) k ?_ ?_ ?_
 ·exact ⟨0, ([] : List (Int × Int × Int)), v9_1, S9_1, hE_1, hl_v9_1, rfl, rfl⟩
 ·rintro _ _ ⟨_, _, _, _, hE_1, _⟩
  rw [spec_l3Node.l0.eq_1] at hE_1; cases hE_1
 ·rintro n_1 _ _ ⟨x6, xq5_1_1, wq5_1_1, Tq5_1_1, hE_1, hl_wq5_1_1, rfl, rfl⟩ ih_1
  rw [spec_l3Node.l0.eq_2] at hE_1
  refine Tri.seq (Tri.seq (Tri.reg (l := [0, 1, 2, 3, 4]) rfl ?_))
  refine F.qn rfl (r_move rfl) (F.qn rfl (r_fieldAddr tf27_1 rfl) (F.qn rfl (r_load ta24 rfl (fun w hw => cell_1 (box_cells (i := 2) rfl w hw) rfl)) (F.qn rfl (r_len Tryz.underlying24 rfl hl_va0_1) (F.qn rfl (r_lss rfl rfl) (F.nil (Nrm.seq (Tri.cond (b := decide (x6 < (a0_1.length : Int))) rfl (fun g_1 => ?_) (fun g_1 => ?_))))))))
  ·replace hE_1 := if_tt g_1 hE_1
   refine Tri.skip (Nrm.seq (Tri.seq (Tri.block ?_)))
   refine Tri.seq ?_
   obtain ⟨y35, hE_2, hE_1⟩ := bind_some hE_1
   refine Tri.cut (fun e' C' => e' = [(1, .int .i64 a1), (2, .pointer (some ⟨b2_1, 0, none⟩)), (4, .pointer (some ⟨b4_1, 0, none⟩)), (5, .pointer (some ⟨b5_1, 0, none⟩)), (6, .int .i64 x6), (35, .bool y35)] ∧ C' = Sep w noM [R.box b5_1 27 [.int .i64 t8_1, wq5_1_1, v8_2], R.box b4_1 27 [.int .i64 0, .slice none 0 0, .slice none 0 0], R.box b2_1 27 [.int .i64 a0_0, va0_1, va0_2], R.sl S8_2 v8_2 (t8_3 : List (Int)), R.sl Tq5_1_1 wq5_1_1 (xq5_1_1 : List (Int × Int × Int))]) ?_ (fun hj_1 => ?_)
   ·rintro _ _ ⟨rfl, rfl⟩
    refine Nrm.seq ?_
    obtain ⟨yb5_1_1, hE_3, hE_1⟩ := bind_some hE_1
    refine Tri.cut (fun e' C' => ∃ (vb5_1_1_1 : Value) (Sb5_1_1_1 : Nat → Prop), SlLen vb5_1_1_1 (yb5_1_1).length ∧ e' = [(1, .int .i64 a1), (2, .pointer (some ⟨b2_1, 0, none⟩)), (4, .pointer (some ⟨b4_1, 0, none⟩)), (5, .pointer (some ⟨b5_1, 0, none⟩)), (6, .int .i64 x6)] ∧ C' = Sep w noM [R.box b5_1 27 [.int .i64 t8_1, vb5_1_1_1, v8_2], R.box b4_1 27 [.int .i64 0, .slice none 0 0, .slice none 0 0], R.box b2_1 27 [.int .i64 a0_0, va0_1, va0_2], R.sl Sb5_1_1_1 vb5_1_1_1 (yb5_1_1 : List (Int × Int × Int)), R.sl S8_2 v8_2 (t8_3 : List (Int))]) ?_ (fun hj_2 => ?_)
    ·rintro _ _ ⟨vb5_1_1_1, Sb5_1_1_1, hl_vb5_1_1_1, rfl, rfl⟩
     refine Nrm.block ?_
     refine Nrm.seq (Tri.reg (l := [0, 1, 2]) rfl ?_)
     refine F.qn rfl (r_move rfl) (F.qn rfl (r_add rfl rfl) (F.qn rfl (r_assign rfl) (F.nil (Nrm.round ?_))))
     refine Rnd.only [1, 2, 4, 5, 6] rfl ?_
     refine Rnd.pick [0, 1, 2, 3, 4] rfl rfl ?_
     exact ih_1 _ _ ⟨w64 (x6 + 1), yb5_1_1, vb5_1_1_1, Sb5_1_1_1, hE_1, hl_vb5_1_1_1, rfl, rfl⟩
    ·refine Tri.cond (b := y35) rfl (fun g_2 => ?_) (fun g_2 => ?_)
     ·replace hE_3 := if_tt g_2 hE_3
      obtain ⟨t41, h41, hE_3⟩ := bind_some hE_3
      obtain ⟨hs44, hE_3⟩ := ck hE_3
      refine Tri.drawA mixedT Sep.up [(0, true), (1, true), (2, true), (3, true), (4, true), (5, true), (6, true), (7, false)] [8, 9, 10] (by kernel_rfl) ?_
      refine S.qn rfl (r_fieldAddr tf27_1 rfl) ?_
      refine S.qn rfl (r_load ta24 rfl (fun w hw => cell_1 (box_cells (i := 0) rfl w hw) rfl)) (S.qn rfl (r_fieldAddr tf27_1 rfl) (S.qn rfl (r_load ta24 rfl (fun w hw => cell_1 (box_cells (i := 2) rfl w hw) rfl)) (S.qn rfl (r_move rfl) (S.qn rfl (r_indexAddrS Tryz.underlying24 ti168 rfl hl_va0_1 rfl (rdl_some h41).1 (rdl_some h41).2.1) (S.qn rfl (r_loadA ta168 ti168 rfl rfl (fun w hw => (Rd.flat ((fun _ hw => hr_a0_1.sep hw) w hw) (rdl_some h41).2.2))) ?_)))))
      refine S.m rfl rfl rfl (wanted_none rfl) (m_buildF (l := ([t41] : List (Int × Int × Int))) Tryz.underlying24 ti168 rfl rfl rfl rfl rfl) ?_
      rintro v43_2 _ ⟨S43_2, hl_v43_2, rfl⟩
      refine S.nil (F.efn rfl (d_append (i := 5) Tryz.underlying24 Tryz.underlying24 ti168 rfl (by decide) rfl rfl rfl (rd_sl (i := 0) rfl) hs44) ?_)
      rintro v44_2 _ ⟨S44_2, rfl, hl_v44_2⟩
      refine F.qn rfl (r_fieldAddr tf27_1 rfl) ?_
      refine F.ef0 rfl rfl (wanted_none rfl) (d_storeG1 (i := 1) (cs2 := [v44_2]) ti24 rfl rfl rfl (sl_cells hl_v44_2) rfl (Nat.le_of_ble_eq_true rfl) (lf_cons (sl_leaf hl_v44_2) lf_nil)) ?_
      rintro _ _ ⟨rfl, rfl⟩
      refine F.nil ?_
      cases hE_3
      refine Nrm.only [1, 2, 4, 5, 6] rfl ?_
      refine Nrm.pick [1, 2, 3, 5, 4] rfl rfl ?_
      exact hj_2 _ _ ⟨v44_2, S44_2, hl_v44_2, rfl, rfl⟩
     ·replace hE_3 := if_ff g_2 hE_3
      refine Tri.skip ?_
      cases hE_3
      refine Nrm.only [1, 2, 4, 5, 6] rfl ?_
      refine Nrm.pick [0, 1, 2, 4, 3] rfl rfl ?_
      exact hj_2 _ _ ⟨wq5_1_1, Tq5_1_1, hl_wq5_1_1, rfl, rfl⟩
   ·obtain ⟨t21, h21, hE_2⟩ := bind_some hE_2
    rcases Bool.eq_false_or_eq_true (t21.1 != a1) with g26 | g26
    ·replace hE_2 := if_tt g26 hE_2
     obtain ⟨t30, h30, hE_2⟩ := bind_some hE_2
     refine Tri.reg (l := List.range 18) rfl ?_
     refine F.qn rfl (r_fieldAddr tf27_1 rfl) (F.qn rfl (r_load ta24 rfl (fun w hw => cell_1 (box_cells (i := 2) rfl w hw) rfl)) (F.qn rfl (r_move rfl) (F.qn rfl (r_indexAddrS Tryz.underlying24 ti168 rfl hl_va0_1 rfl (rdl_some h21).1 (rdl_some h21).2.1) (F.qn rfl (r_indexAddrA Tryz.underlying168 ti3 rfl rfl (by decide) (by decide)) (F.qn rfl (r_load ta3 rfl (fun w hw => cell_1 (Rd.flat ((fun _ hw => hr_a0_1.sep hw) w hw) (rdl_some h21).2.2) rfl)) ?_)))))
     refine F.qn rfl (r_move rfl) (F.qn rfl (r_neq rfl rfl) (F.qn rfl (r_move rfl) (F.qg rfl g26 (r_fieldAddr tf27_1 rfl) (F.qg rfl g26 (r_load ta24 rfl (fun w hw => cell_1 (box_cells (i := 2) rfl w hw) rfl)) (F.qg rfl g26 (r_move rfl) ?_)))))
     refine F.qg rfl g26 (r_indexAddrS Tryz.underlying24 ti168 rfl hl_va0_1 rfl (rdl_some h30).1 (rdl_some h30).2.1) (F.qg rfl g26 (r_indexAddrA Tryz.underlying168 ti3 rfl rfl (by decide) (by decide)) (F.qg rfl g26 (r_load ta3 rfl (fun w hw => cell_1 (Rd.flat ((fun _ hw => hr_a0_1.sep hw) w hw) (rdl_some h30).2.2) rfl)) (F.qg rfl g26 (r_move rfl) (F.qg rfl g26 (r_neq rfl rfl) (F.qn rfl (r_pick rfl rfl g26) (F.nil ?_))))))
     cases hE_2
     refine Nrm.only [1, 2, 4, 5, 6, 35] rfl ?_
     refine Nrm.pick [0, 1, 2, 4, 3] rfl rfl ?_
     exact hj_1 _ _ ⟨rfl, rfl⟩
    ·replace hE_2 := if_ff g26 hE_2
     refine Tri.reg (l := List.range 18) rfl ?_
     refine F.qn rfl (r_fieldAddr tf27_1 rfl) (F.qn rfl (r_load ta24 rfl (fun w hw => cell_1 (box_cells (i := 2) rfl w hw) rfl)) (F.qn rfl (r_move rfl) ?_))
     refine F.qn rfl (r_indexAddrS Tryz.underlying24 ti168 rfl hl_va0_1 rfl (rdl_some h21).1 (rdl_some h21).2.1) (F.qn rfl (r_indexAddrA Tryz.underlying168 ti3 rfl rfl (by decide) (by decide)) (F.qn rfl (r_load ta3 rfl (fun w hw => cell_1 (Rd.flat ((fun _ hw => hr_a0_1.sep hw) w hw) (rdl_some h21).2.2) rfl)) (F.qn rfl (r_move rfl) (F.qn rfl (r_neq rfl rfl) (F.qn rfl (r_move rfl) ?_)))))
     iterate 8 refine F.skf rfl g26 ?_
     refine F.qn rfl (r_pickf rfl rfl g26) (F.nil ?_)
     cases hE_2
     refine Nrm.only [1, 2, 4, 5, 6, 35] rfl ?_
     refine Nrm.pick [0, 1, 2, 4, 3] rfl rfl ?_
     exact hj_1 _ _ ⟨rfl, rfl⟩
  ·replace hE_1 := if_ff g_1 hE_1
   refine Tri.exit ?_
   refine Exi.then ?_
   refine Exi.then ?_
   refine Exi.same ?_
   cases hE_1
   refine Nrm.seq (Tri.seq (Tri.reg (l := [0, 1]) rfl ?_))
   refine F.qn rfl (r_loadA ta27 ti27 rfl rfl (fun w hw => (box_cells (i := 0) rfl w hw))) ?_
   refine F.ef0 rfl rfl (wanted_none rfl) (d_storeG0 (i := 1) (cs2 := [.int .i64 t8_1, wq5_1_1, v8_2]) ti27 rfl rfl rfl rfl rfl (Nat.le_of_ble_eq_true rfl) (lf_cons rfl (lf_cons (sl_leaf hl_wq5_1_1) (lf_cons (sl_leaf hl_v8_2) lf_nil)))) ?_
   rintro _ _ ⟨rfl, rfl⟩
   refine F.nil (Nrm.seq (Tri.ret ?_))
   cases h
   exact Rtn.body (.cell rfl ta27 ti27 rfl (fun _ hw => box_cells (i := 1) rfl _ hw) .nil) (fun w hw => ⟨_, _, rfl, ⟨wq5_1_1, Tq5_1_1, v8_2, S8_2, rfl, hl_wq5_1_1, hl_v8_2, rfl⟩, Sep.pick (is := [3, 4]) rfl rfl hw⟩)


def spec_RequiredNodes.l0 (k : Nat) (a0_0 : Int) (a0_1 : List (Int × Int × Int)) (a0_2 : List Int) (a1 : Int) : Nat → (List (Int)) → Int → Option ((List (Int)))
 | 0, _, _ => none
 | n + 1, x6, x7 => (if (decide (x7 < (w64 (a0_0 - 1)))) = true then (spec_l3Node.f k a0_0 a0_1 a0_2 x7).bind fun (t23_1, t23_2, t23_3) => (spec_l3Wins.f k t23_1 t23_2 t23_3 a1).bind fun t25 => ((if (!t25) = true then if (x6 ++ ([x7] : List (Int))).length < 1099511627776 then some (x6 ++ ([x7] : List (Int))) else none else some x6)).bind fun y6 => spec_RequiredNodes.l0 k a0_0 a0_1 a0_2 a1 n y6 (w64 (x7 + 1)) else some x6)

def spec_RequiredNodes.f (k : Nat) (a0_0 : Int) (a0_1 : List (Int × Int × Int)) (a0_2 : List Int) (a1 : Int) : Option ((List Int) × Bool) := (spec_l3Can.f k a0_0 a0_1 a0_2 a1).bind fun t11 => (if (!t11) = true then some (([] : List (Int)), false) else (spec_RequiredNodes.l0 k a0_0 a0_1 a0_2 a1 k ([] : List (Int)) 1).bind fun x6 => some (x6, true))

theorem spec_RequiredNodes.ok {k : Nat}  {a0_0 : Int} {a0_1 : List (Int × Int × Int)} {a0_2 : List Int} {a1 : Int} {r0 : List Int} {r1 : Bool} (h : spec_RequiredNodes.f k a0_0 a0_1 a0_2 a1 = some (r0, r1)) (w : World) {va0_1 : Value} {va0_2 : Value} (hr_a0_1 : Rd w va0_1 a0_1) (hr_a0_2 : Rd w va0_2 a0_2) :
  Calls Tryz.prog 10 ([.agg ([.int .i64 a0_0, va0_1, va0_2].toArray), .int .i64 a1] : List Value).toArray w (Post (fun u ns => ∃ (ur0 : Value) (Sr0 : Nat → Prop), u = .tuple #[ur0, .bool r1] ∧ SlLen ur0 r0.length ∧ ns = [R.sl Sr0 ur0 r0]) w) := by
 unfold spec_RequiredNodes.f at h
 have hl_va0_1 := hr_a0_1.len
 have hl_va0_2 := hr_a0_2.len
 refine Calls.of_tri (N := 32) Tryz.func10 rfl rfl rfl (Sep.nil (M := noM)) ?_
 refine Tri.seq (Tri.reg (l := [0, 1, 2]) rfl ?_)
 refine F.mn rfl (m_boxG rfl rfl) ?_
 rintro _ _ ⟨b2_1, rfl, rfl⟩
 refine F.qn rfl (r_assign rfl) (F.qn rfl (r_assign rfl) (F.nil (Nrm.seq (Tri.seq (Tri.reg (l := [0, 1]) rfl ?_)))))
 refine F.mn rfl (m_build0 (α := Int) Tryz.underlying25 ti3) ?_
 rintro v8_1 _ ⟨S8_1, hl_v8_1, rfl⟩
 refine F.qn rfl (r_assign rfl) (F.nil (Nrm.seq (Tri.seq (Tri.seq ?_))))
 obtain ⟨t11, h11, h⟩ := bind_some h
 refine Tri.reg (l := [0, 1, 2, 3]) rfl ?_
 refine F.qn rfl (r_loadA ta27 ti27 rfl rfl (fun w hw => (box_cells (i := 1) rfl w hw))) (F.qn rfl (r_move rfl) ?_)
 refine F.qcn rfl (q_callF (xs := _) rfl ok87 rfl rfl (fun w hw => spec_l3Can.ok h11 w ((fun _ hw => hr_a0_1.sep hw) w hw) ((fun _ hw => hr_a0_2.sep hw) w hw))) ?_
 refine F.qn rfl (r_not rfl) (F.nil (Nrm.seq (Tri.cond (b := !t11) rfl (fun g_1 => ?_) (fun g_1 => ?_))))
 ·replace h := if_tt g_1 h
  refine Tri.seq (Tri.reg (l := [0, 1, 2]) rfl ?_)
  refine F.qn rfl (r_move rfl) (F.qn rfl (r_assign rfl) (F.qn rfl (r_assign rfl) (F.nil (Nrm.seq (Tri.ret ?_)))))
  refine Rtn.then ?_
  cases h
  exact Rtn.body (.tmp rfl (.tmp rfl .nil)) (fun w hw => ⟨_, _, rfl, ⟨v8_1, S8_1, rfl, hl_v8_1, rfl⟩, Sep.pick (is := [0]) rfl rfl hw⟩)
 ·replace h := if_ff g_1 h
  refine Tri.skip (Nrm.seq (Tri.seq (Tri.seq (Tri.reg (l := [0]) rfl ?_))))
  refine F.qn rfl (r_assign rfl) (F.nil (Nrm.seq ?_))
  obtain ⟨x6, hE_1, h⟩ := bind_some h
  refine Tri.block ?_
  refine Tri.only [1, 2, 6, 7] rfl ?_
  refine Tri.pick [1, 0] rfl rfl ?_
  refine Tri.rounds (fun n e' C' => ∃ (x6' : List (Int)) (x7' : Int) (w6 : Value) (T6 : Nat → Prop), spec_RequiredNodes.l0 k a0_0 a0_1 a0_2 a1 n x6' x7' = some x6 ∧ SlLen w6 (x6').length ∧ e' = [(1, .int .i64 a1), (2, .pointer (some ⟨b2_1, 0, none⟩)), (6, w6), (7, .int .i64 x7')] ∧ C' = Sep w noM [R.box b2_1 27 [.int .i64 a0_0, va0_1, va0_2], R.sl T6 w6 (x6' : List (Int))]) k ?_ ?_ ?_
  ·exact ⟨([] : List (Int)), 1, v8_1, S8_1, hE_1, hl_v8_1, rfl, rfl⟩
  ·rintro _ _ ⟨_, _, _, _, hE_1, _⟩
   rw [spec_RequiredNodes.l0.eq_1] at hE_1; cases hE_1
  ·rintro n_1 _ _ ⟨x6, x7, w6, T6, hE_1, hl_w6, rfl, rfl⟩ ih_1
   rw [spec_RequiredNodes.l0.eq_2] at hE_1
   refine Tri.seq (Tri.seq (Tri.reg (l := [0, 1, 2, 3, 4]) rfl ?_))
   refine F.qn rfl (r_move rfl) (F.qn rfl (r_fieldAddr tf27_0 rfl) (F.qn rfl (r_load ta3 rfl (fun w hw => cell_1 (box_cells (i := 0) rfl w hw) rfl)) (F.qn rfl (r_sub rfl rfl) (F.qn rfl (r_lss rfl rfl) (F.nil (Nrm.seq (Tri.cond (b := decide (x7 < (w64 (a0_0 - 1)))) rfl (fun g_2 => ?_) (fun g_2 => ?_))))))))
   ·replace hE_1 := if_tt g_2 hE_1
    refine Tri.skip (Nrm.seq (Tri.seq (Tri.block ?_)))
    refine Tri.seq ?_
    obtain ⟨⟨t23_1, t23_2, t23_3⟩, h23, hE_1⟩ := bind_some hE_1
    obtain ⟨t25, h25, hE_1⟩ := bind_some hE_1
    refine Tri.reg (l := [0, 1, 2, 3, 4, 5]) rfl ?_
    refine F.qn rfl (r_loadA ta27 ti27 rfl rfl (fun w hw => (box_cells (i := 0) rfl w hw))) (F.qn rfl (r_move rfl) ?_)
    refine F.mn rfl (m_callF (xs := _) rfl ok89 rfl rfl (fun w hw => spec_l3Node.ok h23 w ((fun _ hw => hr_a0_1.sep hw) w hw) ((fun _ hw => hr_a0_2.sep hw) w hw))) ?_
    rintro _ _ ⟨_, ⟨v23_1, S23_1, v23_2, S23_2, rfl, hl_v23_1, hl_v23_2, rfl⟩, rfl⟩
    refine F.qn rfl (r_move rfl) ?_
    refine F.qcn rfl (q_callF (xs := _) rfl ok88 rfl rfl (fun w hw => spec_l3Wins.ok h25 w ((rd_sl (i := 0) rfl) w hw) ((rd_sl (i := 1) rfl) w hw))) ?_
    refine F.qn rfl (r_not rfl) (F.nil (Nrm.seq ?_))
    obtain ⟨y6, hE_2, hE_1⟩ := bind_some hE_1
    refine Tri.cut (fun e' C' => ∃ (v6_1 : Value) (S6_1 : Nat → Prop), SlLen v6_1 (y6).length ∧ e' = [(1, .int .i64 a1), (2, .pointer (some ⟨b2_1, 0, none⟩)), (6, v6_1), (7, .int .i64 x7)] ∧ C' = Sep w noM [R.box b2_1 27 [.int .i64 a0_0, va0_1, va0_2], R.sl S6_1 v6_1 (y6 : List (Int))]) ?_ (fun hj_1 => ?_)
    ·rintro _ _ ⟨v6_1, S6_1, hl_v6_1, rfl, rfl⟩
     refine Nrm.block ?_
     refine Nrm.seq (Tri.reg (l := [0, 1, 2]) rfl ?_)
     refine F.qn rfl (r_move rfl) (F.qn rfl (r_add rfl rfl) (F.qn rfl (r_assign rfl) (F.nil (Nrm.round ?_))))
     refine Rnd.only [1, 2, 6, 7] rfl ?_
     refine Rnd.pick [0, 1] rfl rfl ?_
     exact ih_1 _ _ ⟨y6, w64 (x7 + 1), v6_1, S6_1, hE_1, hl_v6_1, rfl, rfl⟩
    ·refine Tri.cond (b := !t25) rfl (fun g_3 => ?_) (fun g_3 => ?_)
     ·replace hE_2 := if_tt g_3 hE_2
      obtain ⟨hs30, hE_2⟩ := ck hE_2
      refine Tri.reg (l := [0, 1, 2, 3, 4]) rfl ?_
      refine F.qn rfl (r_move rfl) (F.qn rfl (r_move rfl) ?_)
      refine F.mn rfl (m_buildF (l := ([x7] : List (Int))) Tryz.underlying25 ti3 rfl rfl rfl rfl rfl) ?_
      rintro v29_1 _ ⟨S29_1, hl_v29_1, rfl⟩
      refine F.efn rfl (d_append (i := 4) Tryz.underlying25 Tryz.underlying25 ti3 rfl (by decide) rfl rfl rfl (rd_sl (i := 0) rfl) hs30) ?_
      rintro v30_1 _ ⟨S30_1, rfl, hl_v30_1⟩
      refine F.qn rfl (r_assign rfl) (F.nil ?_)
      cases hE_2
      refine Nrm.only [1, 2, 6, 7] rfl ?_
      refine Nrm.pick [3, 4] rfl rfl ?_
      exact hj_1 _ _ ⟨v30_1, S30_1, hl_v30_1, rfl, rfl⟩
     ·replace hE_2 := if_ff g_3 hE_2
      refine Tri.skip ?_
      cases hE_2
      refine Nrm.only [1, 2, 6, 7] rfl ?_
      refine Nrm.pick [2, 3] rfl rfl ?_
      exact hj_1 _ _ ⟨w6, T6, hl_w6, rfl, rfl⟩
   ·replace hE_1 := if_ff g_2 hE_1
    refine Tri.exit ?_
    refine Exi.then ?_
    refine Exi.then ?_
    refine Exi.same ?_
    cases hE_1
    refine Nrm.seq (Tri.seq (Tri.reg (l := [0, 1, 2]) rfl ?_))
    refine F.qn rfl (r_move rfl) (F.qn rfl (r_assign rfl) (F.qn rfl (r_assign rfl) (F.nil (Nrm.seq (Tri.ret ?_)))))
    cases h
    exact Rtn.body (.tmp rfl (.tmp rfl .nil)) (fun w hw => ⟨_, _, rfl, ⟨w6, T6, rfl, hl_w6, rfl⟩, Sep.pick (is := [1]) rfl rfl hw⟩)


def slices_Delete__3int__3int.f (k : Nat) (a0 : List (Int × Int × Int)) (a1 : Int) (a2 : Int) : Option ((List (Int × Int × Int))) := (slc a0 a1 a2).bind fun t13 => (if (a1 == a2) = true then some a0 else (slc a0 0 a1).bind fun t22 => (slc a0 a2 (a0.length : Int)).bind fun t25 => if a1 ≤ a2 then some (t22 ++ t25) else none)

theorem slices_Delete__3int__3int.ok {k : Nat}  {a0 : List (Int × Int × Int)} {a1 : Int} {a2 : Int} {r0 : List (Int × Int × Int)} (h : slices_Delete__3int__3int.f k a0 a1 a2 = some r0) (w : World) {va0 : Value} {Sa0 : Nat → Prop} (hl_va0 : SlLen va0 a0.length) (hw0 : Sep w (footM [R.sl Sa0 va0 a0]) [R.sl Sa0 va0 a0] w) :
  Calls Tryz.prog 176 ([va0, .int .i64 a1, .int .i64 a2] : List Value).toArray w (PostM (footM [R.sl Sa0 va0 a0]) (fun u ns => ∃ (Sr0 : Nat → Prop), SlLen u r0.length ∧ ns = [R.sl Sr0 u r0]) w) := by
 unfold slices_Delete__3int__3int.f at h
 have hcap_va0 := SlOwn.cap (hw0.get (i := 0) rfl)
 refine Calls.of_tri (N := 33) Tryz.func176 rfl rfl rfl hw0 ?_
 refine Tri.seq (Tri.reg (l := [0]) rfl ?_)
 refine F.qn rfl (r_assign rfl) (F.nil (Nrm.seq (Tri.seq ?_)))
 obtain ⟨t13, h13, h⟩ := bind_some h
 refine Tri.reg (l := [0, 1, 2, 3, 4, 5]) rfl ?_
 iterate 4 refine F.qn rfl (r_move rfl) ?_
 refine F.qn rfl (r_len Tryz.underlying24 rfl hl_va0) (F.qn rfl (r_slice3 Tryz.underlying24 ti168 rfl (rd_sl (i := 0) rfl) rfl rfl rfl h13) (F.nil (Nrm.seq (Tri.seq (Tri.seq (Tri.reg (l := [0, 1, 2]) rfl ?_))))))
 refine F.qn rfl (r_move rfl) (F.qn rfl (r_move rfl) (F.qn rfl (r_eql rfl rfl) (F.nil (Nrm.seq (Tri.cond (b := a1 == a2) rfl (fun g_1 => ?_) (fun g_1 => ?_))))))
 ·replace h := if_tt g_1 h
  refine Tri.seq (Tri.reg (l := [0, 1]) rfl ?_)
  refine F.qn rfl (r_move rfl) (F.qn rfl (r_assign rfl) (F.nil (Nrm.seq (Tri.ret ?_))))
  refine Rtn.then ?_
  cases h
  exact Rtn.body (.tmp rfl .nil) (fun w hw => ⟨_, _, rfl, ⟨Sa0, hl_va0, rfl⟩, Sep.pick (is := [0]) rfl rfl hw⟩)
 ·replace h := if_ff g_1 h
  refine Tri.skip (Nrm.seq (Tri.seq (Tri.reg (l := [0, 1, 2]) rfl ?_)))
  refine F.qn rfl (r_move rfl) (F.qn rfl (r_len Tryz.underlying24 rfl hl_va0) (F.qn rfl (r_assign rfl) (F.nil (Nrm.seq (Tri.seq ?_)))))
  obtain ⟨t22, h22, h⟩ := bind_some h
  obtain ⟨t25, h25, h⟩ := bind_some h
  obtain ⟨hs26, h⟩ := ck h
  refine Tri.drawA mixedT Sep.up [(0, true), (1, true), (2, true), (3, true), (4, true), (5, true)] [6, 7] (by kernel_rfl) ?_
  refine S.qn rfl (r_move rfl) (S.qn rfl (r_move rfl) (S.qn rfl (r_sliceH Tryz.underlying24 ti168 rfl (rd_sl (i := 0) rfl) rfl h22) (S.qn rfl (r_move rfl) (S.qn rfl (r_move rfl) (S.qn rfl (r_sliceL Tryz.underlying24 ti168 rfl (rd_sl (i := 0) rfl) rfl h25) (S.nil (F.efn rfl (d_appendSelf (p := 0) Tryz.underlying24 Tryz.underlying24 ti168 rfl rfl rfl h22 h25 hs26) ?_)))))))
  rintro _ _ ⟨rfl, rfl⟩
  refine F.qn rfl (r_assign rfl) (F.nil (Nrm.seq (Tri.seq (Tri.reg (l := [0, 1, 2, 3, 4, 5]) rfl ?_))))
  refine F.qn rfl (r_move rfl) (F.qn rfl (r_move rfl) (F.qn rfl (r_len Tryz.underlying24 rfl (slTo_len hl_va0 (self_le h22 h25 hs26))) (F.qn rfl (r_move rfl) (F.qn rfl (r_sliceBeyond (m := (t22 ++ t25).length) (q := a0.length) Tryz.underlying24 ti168 rfl hcap_va0 rfl rfl (self_le h22 h25 hs26)) ?_))))
  refine F.ef0 rfl rfl (wanted_none rfl) (d_clearBeyond (p := 0) (x0 := ((0, 0, 0) : Int × Int × Int)) Tryz.underlying24 ti168 rfl rfl rfl rfl (self_le h22 h25 hs26) hcap_va0) ?_
  rintro _ _ rfl
  refine F.nil (Nrm.seq (Tri.seq (Tri.reg (l := [0, 1]) rfl ?_)))
  refine F.qn rfl (r_move rfl) (F.qn rfl (r_assign rfl) (F.nil (Nrm.seq (Tri.ret ?_))))
  cases h
  exact Rtn.body (.tmp rfl .nil) (fun w hw => ⟨_, _, rfl, ⟨Sa0, (slTo_len hl_va0 (self_le h22 h25 hs26)), rfl⟩, Sep.pick (is := [0]) rfl rfl hw⟩)


def impl_dropped.f (k : Nat) (a0_0 : Int) (a0_1 : List (Int × Int × Int)) (a0_2 : List Int) (a1 : Int) : Option (Int × (List (Int × Int × Int)) × (List Int)) := (impl_own.f k a0_0 a0_1 a0_2).bind fun (t7_1, t7_2, t7_3) => (slices_Delete__3int__3int.f k t7_2 a1 (w64 (a1 + 1))).bind fun t13 => some (t7_1, t13, t7_3)

theorem impl_dropped.ok {k : Nat}  {a0_0 : Int} {a0_1 : List (Int × Int × Int)} {a0_2 : List Int} {a1 : Int} {r0 : Int} {r1 : List (Int × Int × Int)} {r2 : List Int} (h : impl_dropped.f k a0_0 a0_1 a0_2 a1 = some (r0, r1, r2)) (w : World) {va0_1 : Value} {va0_2 : Value} (hr_a0_1 : Rd w va0_1 a0_1) (hr_a0_2 : Rd w va0_2 a0_2) :
  Calls Tryz.prog 90 ([.agg ([.int .i64 a0_0, va0_1, va0_2].toArray), .int .i64 a1] : List Value).toArray w (Post (fun u ns => ∃ (ur1 : Value) (Sr1 : Nat → Prop) (ur2 : Value) (Sr2 : Nat → Prop), u = .agg [.int .i64 r0, ur1, ur2].toArray ∧ SlLen ur1 r1.length ∧ SlLen ur2 r2.length ∧ ns = [R.sl Sr1 ur1 r1, R.sl Sr2 ur2 r2]) w) := by
 unfold impl_dropped.f at h
 have hl_va0_1 := hr_a0_1.len
 have hl_va0_2 := hr_a0_2.len
 refine Calls.of_tri (N := 16) Tryz.func90 rfl rfl rfl (Sep.nil (M := noM)) ?_
 refine Tri.seq (Tri.reg (l := [0, 1]) rfl ?_)
 refine F.mn rfl (m_boxG rfl rfl) ?_
 rintro _ _ ⟨b2_1, rfl, rfl⟩
 refine F.mn rfl (m_alloc ti27) ?_
 rintro _ _ ⟨b4_1, rfl, rfl⟩
 refine F.nil (Nrm.seq (Tri.seq ?_))
 obtain ⟨⟨t7_1, t7_2, t7_3⟩, h7, h⟩ := bind_some h
 refine Tri.reg (l := [0, 1, 2, 3]) rfl ?_
 refine F.qn rfl (r_loadA ta27 ti27 rfl rfl (fun w hw => (box_cells (i := 1) rfl w hw))) ?_
 refine F.mn rfl (m_callF (xs := _) rfl ok107 rfl rfl (fun w hw => impl_own.ok h7 w ((fun _ hw => hr_a0_1.sep hw) w hw) ((fun _ hw => hr_a0_2.sep hw) w hw))) ?_
 rintro _ _ ⟨_, ⟨v7_1, S7_1, v7_2, S7_2, rfl, hl_v7_1, hl_v7_2, rfl⟩, rfl⟩
 refine F.mn rfl (m_alloc ti27) ?_
 rintro _ _ ⟨b5_1, rfl, rfl⟩
 refine F.ef0 rfl rfl (wanted_none rfl) (d_storeG0 (i := 0) (cs2 := [.int .i64 t7_1, v7_1, v7_2]) ti27 rfl rfl rfl rfl rfl (Nat.le_of_ble_eq_true rfl) (lf_cons rfl (lf_cons (sl_leaf hl_v7_1) (lf_cons (sl_leaf hl_v7_2) lf_nil)))) ?_
 rintro _ _ ⟨rfl, rfl⟩
 refine F.nil (Nrm.seq (Tri.seq ?_))
 obtain ⟨t13, h13, h⟩ := bind_some h
 refine Tri.reg (l := [0, 1, 2, 3, 4, 5, 6, 7]) rfl ?_
 refine F.qn rfl (r_fieldAddr tf27_1 rfl) (F.qn rfl (r_load ta24 rfl (fun w hw => cell_1 (box_cells (i := 0) rfl w hw) rfl)) (F.qn rfl (r_move rfl) (F.qn rfl (r_move rfl) (F.qn rfl (r_add rfl rfl) ?_))))
 refine F.efn rfl (d_callM (xs := _) (cs := [R.sl S7_1 v7_1 (t7_2 : List (Int × Int × Int))]) (rest := [R.box b5_1 27 [.int .i64 t7_1, v7_1, v7_2], R.sl S7_2 v7_2 (t7_3 : List (Int)), R.box b4_1 27 [.int .i64 0, .slice none 0 0, .slice none 0 0], R.box b2_1 27 [.int .i64 a0_0, va0_1, va0_2]]) [1] [0, 2, 3, 4] rfl ok176 rfl rfl rfl rfl (fun w hw => slices_Delete__3int__3int.ok h13 w hl_v7_1 (Sep.sub hw))) ?_
 rintro v13_1 _ ⟨_, ⟨S13_1, hl_v13_1, rfl⟩, rfl⟩
 refine F.qn rfl (r_fieldAddr tf27_1 rfl) ?_
 refine F.ef0 rfl rfl (wanted_none rfl) (d_storeG1 (i := 1) (cs2 := [v13_1]) ti24 rfl rfl rfl (sl_cells hl_v13_1) rfl (Nat.le_of_ble_eq_true rfl) (lf_cons (sl_leaf hl_v13_1) lf_nil)) ?_
 rintro _ _ ⟨rfl, rfl⟩
 refine F.nil (Nrm.seq (Tri.seq (Tri.reg (l := [0, 1]) rfl ?_)))
 refine F.qn rfl (r_loadA ta27 ti27 rfl rfl (fun w hw => (box_cells (i := 1) rfl w hw))) ?_
 refine F.ef0 rfl rfl (wanted_none rfl) (d_storeG0 (i := 3) (cs2 := [.int .i64 t7_1, v13_1, v7_2]) ti27 rfl rfl rfl rfl rfl (Nat.le_of_ble_eq_true rfl) (lf_cons rfl (lf_cons (sl_leaf hl_v13_1) (lf_cons (sl_leaf hl_v7_2) lf_nil)))) ?_
 rintro _ _ ⟨rfl, rfl⟩
 refine F.nil (Nrm.seq (Tri.ret ?_))
 cases h
 exact Rtn.body (.cell rfl ta27 ti27 rfl (fun _ hw => box_cells (i := 3) rfl _ hw) .nil) (fun w hw => ⟨_, _, rfl, ⟨v13_1, S13_1, v7_2, S7_2, rfl, hl_v13_1, hl_v7_2, rfl⟩, Sep.pick (is := [0, 2]) rfl rfl hw⟩)


def impl_RequiredDoors.l0 (k : Nat) (a0_0 : Int) (a0_1 : List (Int × Int × Int)) (a0_2 : List Int) (a1 : Int) : Nat → (List (Int)) → Int → Option ((List (Int)))
 | 0, _, _ => none
 | n + 1, x6, x16 => (if (decide (x16 < (a0_1.length : Int))) = true then (impl_dropped.f k a0_0 a0_1 a0_2 x16).bind fun (t21_1, t21_2, t21_3) => (impl_canWin.f k t21_1 t21_2 t21_3 a1).bind fun t23 => ((if (!t23) = true then if (x6 ++ ([x16] : List (Int))).length < 1099511627776 then some (x6 ++ ([x16] : List (Int))) else none else some x6)).bind fun y6 => impl_RequiredDoors.l0 k a0_0 a0_1 a0_2 a1 n y6 (w64 (x16 + 1)) else some x6)

def impl_RequiredDoors.f (k : Nat) (a0_0 : Int) (a0_1 : List (Int × Int × Int)) (a0_2 : List Int) (a1 : Int) : Option ((List Int) × Bool) := (impl_won.f k a0_0 a0_1 a0_2 a1).bind fun t10 => (if (!t10) = true then some ([], false) else (impl_RequiredDoors.l0 k a0_0 a0_1 a0_2 a1 k ([] : List (Int)) 0).bind fun x6 => some (x6, true))

theorem impl_RequiredDoors.ok {k : Nat}  {a0_0 : Int} {a0_1 : List (Int × Int × Int)} {a0_2 : List Int} {a1 : Int} {r0 : List Int} {r1 : Bool} (h : impl_RequiredDoors.f k a0_0 a0_1 a0_2 a1 = some (r0, r1)) (w : World) {va0_1 : Value} {va0_2 : Value} (hr_a0_1 : Rd w va0_1 a0_1) (hr_a0_2 : Rd w va0_2 a0_2) :
  Calls Tryz.prog 11 ([.agg ([.int .i64 a0_0, va0_1, va0_2].toArray), .int .i64 a1] : List Value).toArray w (Post (fun u ns => ∃ (ur0 : Value) (Sr0 : Nat → Prop), u = .tuple #[ur0, .bool r1] ∧ SlLen ur0 r0.length ∧ ns = [R.sl Sr0 ur0 r0]) w) := by
 unfold impl_RequiredDoors.f at h
 have hl_va0_1 := hr_a0_1.len
 have hl_va0_2 := hr_a0_2.len
 refine Calls.of_tri (N := 31) Tryz.func11 rfl rfl rfl (Sep.nil (M := noM)) ?_
 refine Tri.seq (Tri.reg (l := [0, 1, 2]) rfl ?_)
 refine F.mn rfl (m_boxG rfl rfl) ?_
 rintro _ _ ⟨b2_1, rfl, rfl⟩
 refine F.qn rfl (r_assign rfl) (F.qn rfl (r_assign rfl) (F.nil (Nrm.seq (Tri.seq (Tri.seq ?_)))))
 obtain ⟨t10, h10, h⟩ := bind_some h
 refine Tri.reg (l := [0, 1, 2, 3]) rfl ?_
 refine F.qn rfl (r_loadA ta27 ti27 rfl rfl (fun w hw => (box_cells (i := 0) rfl w hw))) (F.qn rfl (r_move rfl) ?_)
 refine F.qcn rfl (q_callF (xs := _) rfl ok84 rfl rfl (fun w hw => impl_won.ok h10 w ((fun _ hw => hr_a0_1.sep hw) w hw) ((fun _ hw => hr_a0_2.sep hw) w hw))) ?_
 refine F.qn rfl (r_not rfl) (F.nil (Nrm.seq (Tri.cond (b := !t10) rfl (fun g_1 => ?_) (fun g_1 => ?_))))
 ·replace h := if_tt g_1 h
  refine Tri.seq (Tri.reg (l := [0, 1]) rfl ?_)
  refine F.qn rfl (r_assign rfl) (F.qn rfl (r_assign rfl) (F.nil (Nrm.seq (Tri.ret ?_))))
  refine Rtn.then ?_
  cases h
  exact Rtn.body (.tmp rfl (.tmp rfl .nil)) (fun w hw => ⟨_, _, rfl, ⟨.slice none 0 0, fun _ => False, rfl, len_nil, rfl⟩, Sep.pick (is := [0]) rfl rfl hw.pushNil⟩)
 ·replace h := if_ff g_1 h
  refine Tri.skip (Nrm.seq (Tri.seq (Tri.reg (l := [0, 1]) rfl ?_)))
  refine F.mn rfl (m_build0 (α := Int) Tryz.underlying25 ti3) ?_
  rintro v12_1 _ ⟨S12_1, hl_v12_1, rfl⟩
  refine F.qn rfl (r_assign rfl) (F.nil (Nrm.seq (Tri.seq (Tri.seq (Tri.reg (l := [0, 1, 2, 3]) rfl ?_)))))
  refine F.qn rfl (r_fieldAddr tf27_1 rfl) (F.qn rfl (r_load ta24 rfl (fun w hw => cell_1 (box_cells (i := 1) rfl w hw) rfl)) (F.qn rfl (r_len Tryz.underlying24 rfl hl_va0_1) (F.qn rfl (r_move rfl) (F.nil (Nrm.seq ?_)))))
  obtain ⟨x6, hE_1, h⟩ := bind_some h
  refine Tri.block ?_
  refine Tri.only [1, 2, 6, 15, 16] rfl ?_
  refine Tri.pick [1, 0] rfl rfl ?_
  refine Tri.rounds (fun n e' C' => ∃ (x6' : List (Int)) (x16' : Int) (w6 : Value) (T6 : Nat → Prop), impl_RequiredDoors.l0 k a0_0 a0_1 a0_2 a1 n x6' x16' = some x6 ∧ SlLen w6 (x6').length ∧ e' = [(1, .int .i64 a1), (2, .pointer (some ⟨b2_1, 0, none⟩)), (6, w6), (15, .int .i64 (a0_1.length : Int)), (16, .int .i64 x16')] ∧ C' = Sep w noM [R.box b2_1 27 [.int .i64 a0_0, va0_1, va0_2], R.sl T6 w6 (x6' : List (Int))]) k ?_ ?_ ?_
  ·exact ⟨([] : List (Int)), 0, v12_1, S12_1, hE_1, hl_v12_1, rfl, rfl⟩
  ·rintro _ _ ⟨_, _, _, _, hE_1, _⟩
   rw [impl_RequiredDoors.l0.eq_1] at hE_1; cases hE_1
  ·rintro n_1 _ _ ⟨x6, x16, w6, T6, hE_1, hl_w6, rfl, rfl⟩ ih_1
   rw [impl_RequiredDoors.l0.eq_2] at hE_1
   refine Tri.seq (Tri.reg (l := [0]) rfl ?_)
   refine F.qn rfl (r_lss rfl rfl) (F.nil (Nrm.seq (Tri.seq (Tri.cond (b := decide (x16 < (a0_1.length : Int))) rfl (fun g_2 => ?_) (fun g_2 => ?_)))))
   ·replace hE_1 := if_tt g_2 hE_1
    refine Tri.skip (Nrm.seq (Tri.seq (Tri.block ?_)))
    refine Tri.seq (Tri.reg (l := [0, 1]) rfl ?_)
    refine F.qn rfl (r_move rfl) (F.qn rfl (r_assign rfl) (F.nil (Nrm.seq (Tri.seq ?_))))
    obtain ⟨⟨t21_1, t21_2, t21_3⟩, h21, hE_1⟩ := bind_some hE_1
    obtain ⟨t23, h23, hE_1⟩ := bind_some hE_1
    refine Tri.reg (l := [0, 1, 2, 3, 4, 5]) rfl ?_
    refine F.qn rfl (r_loadA ta27 ti27 rfl rfl (fun w hw => (box_cells (i := 0) rfl w hw))) (F.qn rfl (r_move rfl) ?_)
    refine F.mn rfl (m_callF (xs := _) rfl ok90 rfl rfl (fun w hw => impl_dropped.ok h21 w ((fun _ hw => hr_a0_1.sep hw) w hw) ((fun _ hw => hr_a0_2.sep hw) w hw))) ?_
    rintro _ _ ⟨_, ⟨v21_1, S21_1, v21_2, S21_2, rfl, hl_v21_1, hl_v21_2, rfl⟩, rfl⟩
    refine F.qn rfl (r_move rfl) ?_
    refine F.qcn rfl (q_callF (xs := _) rfl ok85 rfl rfl (fun w hw => impl_canWin.ok h23 w ((rd_sl (i := 0) rfl) w hw) ((rd_sl (i := 1) rfl) w hw))) ?_
    refine F.qn rfl (r_not rfl) (F.nil (Nrm.seq ?_))
    obtain ⟨y6, hE_2, hE_1⟩ := bind_some hE_1
    refine Tri.cut (fun e' C' => ∃ (v6_1 : Value) (S6_1 : Nat → Prop), SlLen v6_1 (y6).length ∧ e' = [(1, .int .i64 a1), (2, .pointer (some ⟨b2_1, 0, none⟩)), (6, v6_1), (15, .int .i64 (a0_1.length : Int)), (16, .int .i64 x16)] ∧ C' = Sep w noM [R.box b2_1 27 [.int .i64 a0_0, va0_1, va0_2], R.sl S6_1 v6_1 (y6 : List (Int))]) ?_ (fun hj_1 => ?_)
    ·rintro _ _ ⟨v6_1, S6_1, hl_v6_1, rfl, rfl⟩
     refine Nrm.block ?_
     refine Nrm.seq (Tri.reg (l := [0, 1]) rfl ?_)
     refine F.qn rfl (r_add rfl rfl) (F.qn rfl (r_move rfl) (F.nil (Nrm.round ?_)))
     refine Rnd.only [1, 2, 6, 15, 16] rfl ?_
     refine Rnd.pick [0, 1] rfl rfl ?_
     exact ih_1 _ _ ⟨y6, w64 (x16 + 1), v6_1, S6_1, hE_1, hl_v6_1, rfl, rfl⟩
    ·refine Tri.cond (b := !t23) rfl (fun g_3 => ?_) (fun g_3 => ?_)
     ·replace hE_2 := if_tt g_3 hE_2
      obtain ⟨hs28, hE_2⟩ := ck hE_2
      refine Tri.reg (l := [0, 1, 2, 3, 4]) rfl ?_
      refine F.qn rfl (r_move rfl) (F.qn rfl (r_move rfl) ?_)
      refine F.mn rfl (m_buildF (l := ([x16] : List (Int))) Tryz.underlying25 ti3 rfl rfl rfl rfl rfl) ?_
      rintro v27_1 _ ⟨S27_1, hl_v27_1, rfl⟩
      refine F.efn rfl (d_append (i := 4) Tryz.underlying25 Tryz.underlying25 ti3 rfl (by decide) rfl rfl rfl (rd_sl (i := 0) rfl) hs28) ?_
      rintro v28_1 _ ⟨S28_1, rfl, hl_v28_1⟩
      refine F.qn rfl (r_assign rfl) (F.nil ?_)
      cases hE_2
      refine Nrm.only [1, 2, 6, 15, 16] rfl ?_
      refine Nrm.pick [3, 4] rfl rfl ?_
      exact hj_1 _ _ ⟨v28_1, S28_1, hl_v28_1, rfl, rfl⟩
     ·replace hE_2 := if_ff g_3 hE_2
      refine Tri.skip ?_
      cases hE_2
      refine Nrm.only [1, 2, 6, 15, 16] rfl ?_
      refine Nrm.pick [2, 3] rfl rfl ?_
      exact hj_1 _ _ ⟨w6, T6, hl_w6, rfl, rfl⟩
   ·replace hE_1 := if_ff g_2 hE_1
    refine Tri.exit ?_
    refine Exi.then ?_
    refine Exi.then ?_
    refine Exi.same ?_
    cases hE_1
    refine Nrm.seq (Tri.seq (Tri.reg (l := [0, 1, 2]) rfl ?_))
    refine F.qn rfl (r_move rfl) (F.qn rfl (r_assign rfl) (F.qn rfl (r_assign rfl) (F.nil (Nrm.seq (Tri.ret ?_)))))
    cases h
    exact Rtn.body (.tmp rfl (.tmp rfl .nil)) (fun w hw => ⟨_, _, rfl, ⟨w6, T6, rfl, hl_w6, rfl⟩, Sep.pick (is := [1]) rfl rfl hw⟩)


def spec_l3Door.f (k : Nat) (a0_0 : Int) (a0_1 : List (Int × Int × Int)) (a0_2 : List Int) (a1 : Int) : Option (Int × (List (Int × Int × Int)) × (List Int)) := (spec_l2Own.f k a0_0 a0_1 a0_2).bind fun (t7_1, t7_2, t7_3) => (slc a0_1 0 a1).bind fun t12 => (slc a0_1 (w64 (a1 + 1)) (a0_1.length : Int)).bind fun t18 => if (([] : List (Int × Int × Int)) ++ t12).length < 1099511627776 then if ((([] : List (Int × Int × Int)) ++ t12) ++ t18).length < 1099511627776 then some (t7_1, (([] : List (Int × Int × Int)) ++ t12) ++ t18, t7_3) else none else none

theorem spec_l3Door.ok {k : Nat}  {a0_0 : Int} {a0_1 : List (Int × Int × Int)} {a0_2 : List Int} {a1 : Int} {r0 : Int} {r1 : List (Int × Int × Int)} {r2 : List Int} (h : spec_l3Door.f k a0_0 a0_1 a0_2 a1 = some (r0, r1, r2)) (w : World) {va0_1 : Value} {va0_2 : Value} (hr_a0_1 : Rd w va0_1 a0_1) (hr_a0_2 : Rd w va0_2 a0_2) :
  Calls Tryz.prog 91 ([.agg ([.int .i64 a0_0, va0_1, va0_2].toArray), .int .i64 a1] : List Value).toArray w (Post (fun u ns => ∃ (ur1 : Value) (Sr1 : Nat → Prop) (ur2 : Value) (Sr2 : Nat → Prop), u = .agg [.int .i64 r0, ur1, ur2].toArray ∧ SlLen ur1 r1.length ∧ SlLen ur2 r2.length ∧ ns = [R.sl Sr1 ur1 r1, R.sl Sr2 ur2 r2]) w) := by
 unfold spec_l3Door.f at h
 have hl_va0_1 := hr_a0_1.len
 have hl_va0_2 := hr_a0_2.len
 refine Calls.of_tri (N := 22) Tryz.func91 rfl rfl rfl (Sep.nil (M := noM)) ?_
 refine Tri.seq (Tri.reg (l := [0, 1]) rfl ?_)
 refine F.mn rfl (m_boxG rfl rfl) ?_
 rintro _ _ ⟨b2_1, rfl, rfl⟩
 refine F.mn rfl (m_alloc ti27) ?_
 rintro _ _ ⟨b4_1, rfl, rfl⟩
 refine F.nil (Nrm.seq (Tri.seq ?_))
 obtain ⟨⟨t7_1, t7_2, t7_3⟩, h7, h⟩ := bind_some h
 refine Tri.reg (l := [0, 1, 2, 3]) rfl ?_
 refine F.qn rfl (r_loadA ta27 ti27 rfl rfl (fun w hw => (box_cells (i := 1) rfl w hw))) ?_
 refine F.mn rfl (m_callF (xs := _) rfl ok141 rfl rfl (fun w hw => spec_l2Own.ok h7 w ((fun _ hw => hr_a0_1.sep hw) w hw) ((fun _ hw => hr_a0_2.sep hw) w hw))) ?_
 rintro _ _ ⟨_, ⟨v7_1, S7_1, v7_2, S7_2, rfl, hl_v7_1, hl_v7_2, rfl⟩, rfl⟩
 refine F.mn rfl (m_alloc ti27) ?_
 rintro _ _ ⟨b5_1, rfl, rfl⟩
 refine F.ef0 rfl rfl (wanted_none rfl) (d_storeG0 (i := 0) (cs2 := [.int .i64 t7_1, v7_1, v7_2]) ti27 rfl rfl rfl rfl rfl (Nat.le_of_ble_eq_true rfl) (lf_cons rfl (lf_cons (sl_leaf hl_v7_1) (lf_cons (sl_leaf hl_v7_2) lf_nil)))) ?_
 rintro _ _ ⟨rfl, rfl⟩
 refine F.nil (Nrm.seq (Tri.seq ?_))
 obtain ⟨t12, h12, h⟩ := bind_some h
 obtain ⟨t18, h18, h⟩ := bind_some h
 obtain ⟨hs13, h⟩ := ck h
 obtain ⟨hs19, h⟩ := ck h
 refine Tri.drawB mixedT Sep.up [(1, true), (2, true), (3, true), (4, true), (6, true), (7, true), (8, true), (9, true), (10, true), (0, false), (5, false)] [11, 12, 13] (by kernel_rfl) ?_
 refine B.q rfl rfl rfl (wanted_none rfl) (r_fieldAddr tf27_1 rfl) ?_
 refine B.q rfl rfl rfl (wanted_none rfl) (r_load ta24 rfl (fun w hw => cell_1 (box_cells (i := 4) rfl w hw) rfl)) ?_
 refine B.q rfl rfl rfl (wanted_none rfl) (r_move rfl) ?_
 refine B.q rfl rfl rfl (wanted_none rfl) (r_sliceH Tryz.underlying24 ti168 rfl (fun _ hw => hr_a0_1.sep hw) rfl h12) ?_
 refine B.q rfl rfl rfl (wanted_none rfl) (r_fieldAddr tf27_1 rfl) ?_
 refine B.q rfl rfl rfl (wanted_none rfl) (r_load ta24 rfl (fun w hw => cell_1 (box_cells (i := 4) rfl w hw) rfl)) ?_
 refine B.q rfl rfl rfl (wanted_none rfl) (r_move rfl) ?_
 refine B.q rfl rfl rfl (wanted_none rfl) (r_add rfl rfl) ?_
 refine B.q rfl rfl rfl (wanted_none rfl) (r_sliceL Tryz.underlying24 ti168 rfl (fun _ hw => hr_a0_1.sep hw) rfl h18) ?_
 refine B.ef rfl rfl rfl (wanted_none rfl) (Makes.does (m_build0 (α := Int × Int × Int) Tryz.underlying24 ti168)) (by rintro v8_2 _ ⟨S8_2, hl_v8_2, rfl⟩; exact upd rfl [1, 2, 3, 4, 5] rfl rfl) ?_
 rintro v8_2 _ ⟨S8_2, hl_v8_2, rfl⟩
 refine B.ef rfl rfl rfl (wanted_none rfl) (d_append (i := 0) Tryz.underlying24 Tryz.underlying24 ti168 rfl (by decide) rfl rfl rfl (fun w hw => rd_slc ((fun _ hw => hr_a0_1.sep hw) w hw) h12) hs13) (by rintro v13_2 _ ⟨S13_2, rfl, hl_v13_2⟩; exact upd rfl [1, 2, 3, 4, 5] rfl rfl) ?_
 rintro v13_2 _ ⟨S13_2, rfl, hl_v13_2⟩
 refine B.nil ?_
 refine F.efn rfl (d_append (i := 0) Tryz.underlying24 Tryz.underlying24 ti168 rfl (by decide) rfl rfl rfl (fun w hw => rd_slc ((fun _ hw => hr_a0_1.sep hw) w hw) h18) hs19) ?_
 rintro v19_2 _ ⟨S19_2, rfl, hl_v19_2⟩
 refine F.qn rfl (r_fieldAddr tf27_1 rfl) ?_
 refine F.ef0 rfl rfl (wanted_none rfl) (d_storeG1 (i := 1) (cs2 := [v19_2]) ti24 rfl rfl rfl (sl_cells hl_v19_2) rfl (Nat.le_of_ble_eq_true rfl) (lf_cons (sl_leaf hl_v19_2) lf_nil)) ?_
 rintro _ _ ⟨rfl, rfl⟩
 refine F.nil (Nrm.seq (Tri.seq (Tri.reg (l := [0, 1]) rfl ?_)))
 refine F.qn rfl (r_loadA ta27 ti27 rfl rfl (fun w hw => (box_cells (i := 1) rfl w hw))) ?_
 refine F.ef0 rfl rfl (wanted_none rfl) (d_storeG0 (i := 4) (cs2 := [.int .i64 t7_1, v19_2, v7_2]) ti27 rfl rfl rfl rfl rfl (Nat.le_of_ble_eq_true rfl) (lf_cons rfl (lf_cons (sl_leaf hl_v19_2) (lf_cons (sl_leaf hl_v7_2) lf_nil)))) ?_
 rintro _ _ ⟨rfl, rfl⟩
 refine F.nil (Nrm.seq (Tri.ret ?_))
 cases h
 exact Rtn.body (.cell rfl ta27 ti27 rfl (fun _ hw => box_cells (i := 4) rfl _ hw) .nil) (fun w hw => ⟨_, _, rfl, ⟨v19_2, S19_2, v7_2, S7_2, rfl, hl_v19_2, hl_v7_2, rfl⟩, Sep.pick (is := [0, 3]) rfl rfl hw⟩)

end Go.Proofs
