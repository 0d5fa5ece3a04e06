/- A part of the proof of FnWorlds: what the functions of the program compute, walked on the model. No condition. -/
import Derived.Test.YtebbaacgalipaaaFnWorldsC
set_option linter.unusedSimpArgs false
/- cmp.Compare[int] -/
namespace Go.Proofs
open Go Go.Ga
set_option linter.unusedVariables false
set_option maxRecDepth 100000
set_option maxHeartbeats 4000000
def cmp_Compare_int.f (k : Nat) (a0 : Int) (a1 : Int) : Option (Int) := (cmp_isNaN_int.f k a0).bind fun t8 => (cmp_isNaN_int.f k a1).bind fun t10 => (if t8 = true then (if t10 = true then some 0 else some (-1)) else (if t10 = true then some 1 else (if (decide (a0 < a1)) = true then some (-1) else (if (decide (a0 > a1)) = true then some 1 else some 0))))

theorem cmp_Compare_int.ok {k : Nat}  {a0 : Int} {a1 : Int} {r0 : Int} (h : cmp_Compare_int.f k a0 a1 = some r0) (w : World) :
  Calls Try.prog 216 ([.int .i64 a0, .int .i64 a1] : List Value).toArray w (fun e w' => e = .returned (.int .i64 r0) ∧ Ext w w') := by
 unfold cmp_Compare_int.f at h
 refine Calls.of_tri (N := 20) Try.func216 rfl rfl rfl (Sep.nil (M := noM)) ?_
 refine Tri.seq (Tri.reg (l := [0]) rfl ?_)
 refine F.qn rfl (r_assign rfl) (F.nil (Nrm.seq (Tri.seq ?_)))
 obtain ⟨t8, h8, h⟩ := bind_some h
 refine Tri.reg (l := [0, 1, 2]) rfl ?_
 refine F.qn rfl (r_move rfl) ?_
 refine F.qcn rfl (q_callF (xs := _) rfl ok229 rfl rfl (fun w hw => cmp_isNaN_int.ok h8 w )) ?_
 refine F.qn rfl (r_assign rfl) (F.nil (Nrm.seq (Tri.seq ?_)))
 obtain ⟨t10, h10, h⟩ := bind_some h
 refine Tri.reg (l := [0, 1, 2]) rfl ?_
 refine F.qn rfl (r_move rfl) ?_
 refine F.qcn rfl (q_callF (xs := _) rfl ok229 rfl rfl (fun w hw => cmp_isNaN_int.ok h10 w )) ?_
 refine F.qn rfl (r_assign rfl) (F.nil (Nrm.seq (Tri.seq (Tri.seq (Tri.reg (l := [0]) rfl ?_)))))
 refine F.qn rfl (r_move rfl) (F.nil (Nrm.seq (Tri.cond (b := t8) rfl (fun g_1 => ?_) (fun g_1 => ?_))))
 ·replace h := if_tt g_1 h
  refine Tri.seq (Tri.seq (Tri.reg (l := [0]) rfl ?_))
  refine F.qn rfl (r_move rfl) (F.nil (Nrm.seq (Tri.cond (b := t10) rfl (fun g_2 => ?_) (fun g_2 => ?_))))
  ·replace h := if_tt g_2 h
   refine Tri.seq (Tri.reg (l := [0]) rfl ?_)
   refine F.qn rfl (r_assign rfl) (F.nil (Nrm.seq (Tri.ret ?_)))
   refine Rtn.then ?_
   refine Rtn.then ?_
   cases h
   exact Rtn.body (.tmp rfl .nil) (fun w hw => ⟨rfl, hw.ext⟩)
  ·replace h := if_ff g_2 h
   refine Tri.skip (Nrm.seq (Tri.seq (Tri.reg (l := [0]) rfl ?_)))
   refine F.qn rfl (r_assign rfl) (F.nil (Nrm.seq (Tri.ret ?_)))
   refine Rtn.then ?_
   cases h
   exact Rtn.body (.tmp rfl .nil) (fun w hw => ⟨rfl, hw.ext⟩)
 ·replace h := if_ff g_1 h
  refine Tri.skip (Nrm.seq (Tri.seq (Tri.seq (Tri.reg (l := [0]) rfl ?_))))
  refine F.qn rfl (r_move rfl) (F.nil (Nrm.seq (Tri.cond (b := t10) rfl (fun g_3 => ?_) (fun g_3 => ?_))))
  ·replace h := if_tt g_3 h
   refine Tri.seq (Tri.reg (l := [0]) rfl ?_)
   refine F.qn rfl (r_assign rfl) (F.nil (Nrm.seq (Tri.ret ?_)))
   refine Rtn.then ?_
   cases h
   exact Rtn.body (.tmp rfl .nil) (fun w hw => ⟨rfl, hw.ext⟩)
  ·replace h := if_ff g_3 h
   refine Tri.skip (Nrm.seq (Tri.seq (Tri.seq (Tri.reg (l := [0, 1, 2]) rfl ?_))))
   refine F.qn rfl (r_move rfl) (F.qn rfl (r_move rfl) (F.qn rfl (r_lss rfl rfl) (F.nil (Nrm.seq (Tri.cond (b := decide (a0 < a1)) rfl (fun g_4 => ?_) (fun g_4 => ?_))))))
   ·replace h := if_tt g_4 h
    refine Tri.seq (Tri.reg (l := [0]) rfl ?_)
    refine F.qn rfl (r_assign rfl) (F.nil (Nrm.seq (Tri.ret ?_)))
    refine Rtn.then ?_
    cases h
    exact Rtn.body (.tmp rfl .nil) (fun w hw => ⟨rfl, hw.ext⟩)
   ·replace h := if_ff g_4 h
    refine Tri.skip (Nrm.seq (Tri.seq (Tri.seq (Tri.reg (l := [0, 1, 2]) rfl ?_))))
    refine F.qn rfl (r_move rfl) (F.qn rfl (r_move rfl) (F.qn rfl (r_gtr rfl rfl) (F.nil (Nrm.seq (Tri.cond (b := decide (a0 > a1)) rfl (fun g_5 => ?_) (fun g_5 => ?_))))))
    ·replace h := if_tt g_5 h
     refine Tri.seq (Tri.reg (l := [0]) rfl ?_)
     refine F.qn rfl (r_assign rfl) (F.nil (Nrm.seq (Tri.ret ?_)))
     refine Rtn.then ?_
     cases h
     exact Rtn.body (.tmp rfl .nil) (fun w hw => ⟨rfl, hw.ext⟩)
    ·replace h := if_ff g_5 h
     refine Tri.skip (Nrm.seq (Tri.seq (Tri.reg (l := [0]) rfl ?_)))
     refine F.qn rfl (r_assign rfl) (F.nil (Nrm.seq (Tri.ret ?_)))
     cases h
     exact Rtn.body (.tmp rfl .nil) (fun w hw => ⟨rfl, hw.ext⟩)


def impl_compareDoors.f (k : Nat) (a0_0 : Int) (a0_1 : Int) (a0_2 : Int) (a1_0 : Int) (a1_1 : Int) (a1_2 : Int) : Option (Int) := (cmp_Compare_int.f k a0_0 a1_0).bind fun t9 => (cmp_Compare_int.f k a0_1 a1_1).bind fun t14 => (cmp_Compare_int.f k a0_2 a1_2).bind fun t19 => (cmp_Or_int.f k ([t9, t14, t19] : List (Int))).bind fun t21 => some t21

theorem impl_compareDoors.ok {k : Nat}  {a0_0 : Int} {a0_1 : Int} {a0_2 : Int} {a1_0 : Int} {a1_1 : Int} {a1_2 : Int} {r0 : Int} (h : impl_compareDoors.f k a0_0 a0_1 a0_2 a1_0 a1_1 a1_2 = some r0) (w : World) :
  Calls Try.prog 195 ([.agg ([.int .i64 a0_0, .int .i64 a0_1, .int .i64 a0_2].toArray), .agg ([.int .i64 a1_0, .int .i64 a1_1, .int .i64 a1_2].toArray)] : List Value).toArray w (fun e w' => e = .returned (.int .i64 r0) ∧ Ext w w') := by
 unfold impl_compareDoors.f at h
 refine Calls.of_tri (N := 22) Try.func195 rfl rfl rfl (Sep.nil (M := noM)) ?_
 refine Tri.seq (Tri.reg (l := [0, 1, 2]) rfl ?_)
 refine F.mn rfl (m_boxG rfl rfl) ?_
 rintro _ _ ⟨b2_1, rfl, rfl⟩
 refine F.mn rfl (m_boxG rfl rfl) ?_
 rintro _ _ ⟨b3_1, rfl, rfl⟩
 refine F.qn rfl (r_assign rfl) (F.nil (Nrm.seq (Tri.seq ?_)))
 obtain ⟨t9, h9, h⟩ := bind_some h
 obtain ⟨t14, h14, h⟩ := bind_some h
 obtain ⟨t19, h19, h⟩ := bind_some h
 obtain ⟨t21, h21, h⟩ := bind_some h
 refine Tri.drawA mixedT Sep.up [(0, true), (1, true), (2, true), (3, true), (4, true), (5, true), (6, true), (7, true), (8, true), (9, true), (10, true), (11, true), (12, true), (13, true), (14, true), (15, false), (16, true), (17, true)] [] (by kernel_rfl) ?_
 refine S.qn rfl (r_indexAddrA Try.underlying121 ti3 rfl rfl (by decide) (by decide)) (S.qn rfl (r_load ta3 rfl (fun w hw => cell_1 (box_cells (i := 1) rfl w hw) rfl)) (S.qn rfl (r_indexAddrA Try.underlying121 ti3 rfl rfl (by decide) (by decide)) (S.qn rfl (r_load ta3 rfl (fun w hw => cell_1 (box_cells (i := 0) rfl w hw) rfl)) ?_)))
 refine S.qcn rfl (q_callF (xs := _) rfl ok216 rfl rfl (fun w hw => cmp_Compare_int.ok h9 w )) ?_
 refine S.qn rfl (r_indexAddrA Try.underlying121 ti3 rfl rfl (by decide) (by decide)) (S.qn rfl (r_load ta3 rfl (fun w hw => cell_1 (box_cells (i := 1) rfl w hw) rfl)) (S.qn rfl (r_indexAddrA Try.underlying121 ti3 rfl rfl (by decide) (by decide)) (S.qn rfl (r_load ta3 rfl (fun w hw => cell_1 (box_cells (i := 0) rfl w hw) rfl)) ?_)))
 refine S.qcn rfl (q_callF (xs := _) rfl ok216 rfl rfl (fun w hw => cmp_Compare_int.ok h14 w )) ?_
 refine S.qn rfl (r_indexAddrA Try.underlying121 ti3 rfl rfl (by decide) (by decide)) (S.qn rfl (r_load ta3 rfl (fun w hw => cell_1 (box_cells (i := 1) rfl w hw) rfl)) (S.qn rfl (r_indexAddrA Try.underlying121 ti3 rfl rfl (by decide) (by decide)) (S.qn rfl (r_load ta3 rfl (fun w hw => cell_1 (box_cells (i := 0) rfl w hw) rfl)) ?_)))
 refine S.qcn rfl (q_callF (xs := _) rfl ok216 rfl rfl (fun w hw => cmp_Compare_int.ok h19 w )) ?_
 refine S.m rfl rfl rfl (wanted_none rfl) (m_buildF (l := ([t9, t14, t19] : List (Int))) Try.underlying25 ti3 rfl rfl rfl rfl rfl) ?_
 rintro v20_2 _ ⟨S20_2, hl_v20_2, rfl⟩
 refine S.qcn rfl (q_callF (xs := _) rfl ok215 rfl rfl (fun w hw => cmp_Or_int.ok h21 w ((rd_sl (i := 0) rfl) w hw))) ?_
 refine S.qn rfl (r_assign rfl) (S.nil (F.nil (Nrm.seq (Tri.ret ?_))))
 cases h
 exact Rtn.body (.tmp rfl .nil) (fun w hw => ⟨rfl, hw.ext⟩)


def impl_IsMaze_1.f (k : Nat) (a0 : Int) : Option (Bool) := (impl_isSet.f k a0).bind fun t4 => some (!t4)

theorem impl_IsMaze_1.ok {k : Nat}  {a0 : Int} {r0 : Bool} (h : impl_IsMaze_1.f k a0 = some r0) (w : World) :
  Calls Try.prog 196 ([.int .i64 a0] : List Value).toArray w (fun e w' => e = .returned (.bool r0) ∧ Ext w w') := by
 unfold impl_IsMaze_1.f at h
 refine Calls.of_tri (N := 6) Try.func196 rfl rfl rfl (Sep.nil (M := noM)) ?_
 refine Tri.seq (Tri.reg (l := [0]) rfl ?_)
 refine F.qn rfl (r_assign rfl) (F.nil (Nrm.seq (Tri.seq ?_)))
 obtain ⟨t4, h4, h⟩ := bind_some h
 refine Tri.reg (l := [0, 1, 2, 3]) rfl ?_
 refine F.qn rfl (r_move rfl) ?_
 refine F.qcn rfl (q_callF (xs := _) rfl ok101 rfl rfl (fun w hw => impl_isSet.ok h4 w )) ?_
 refine F.qn rfl (r_not rfl) (F.qn rfl (r_assign rfl) (F.nil (Nrm.seq (Tri.ret ?_))))
 cases h
 exact Rtn.body (.tmp rfl .nil) (fun w hw => ⟨rfl, hw.ext⟩)


def impl_IsMaze.l0 (k : Nat) (a0_0 : Int) (a0_1 : List (Int × Int × Int)) : Nat → Int → Option ((Unit) ⊕ (Bool))
 | 0, _ => none
 | n + 1, x26 => (if (decide (x26 < (a0_1.length : Int))) = true then (rdl a0_1 x26).bind fun t29 => ((if (decide (t29.1 < 0)) = true then some true else (if (decide (t29.1 ≥ t29.2.1)) = true then some true else (if (decide (t29.2.1 ≥ a0_0)) = true then some true else (impl_isSet.f k t29.2.2).bind fun t51 => (if (!t51) = true then some true else (if (decide (x26 > 0)) = true then (rdl a0_1 (w64 (x26 - 1))).bind fun t62 => (impl_compareDoors.f k t62.1 t62.2.1 t62.2.2 t29.1 t29.2.1 t29.2.2).bind fun t65 => some (decide (t65 ≥ 0)) else some false)))))).bind fun y68 => (if y68 = true then some (Sum.inr false) else impl_IsMaze.l0 k a0_0 a0_1 n (w64 (x26 + 1))) else some (Sum.inl ()))

def impl_IsMaze.f (k : Nat) (a0_0 : Int) (a0_1 : List (Int × Int × Int)) (a0_2 : List Int) : Option (Bool) := ((impl_within.f k a0_0 1 12).bind fun t7 => (if (!t7) = true then some true else (if (decide ((a0_1.length : Int) > 30)) = true then some true else some ((a0_2.length : Int) != a0_0)))).bind fun y22 => (if y22 = true then some false else (impl_IsMaze.l0 k a0_0 a0_1 k 0).bind fun s => Lr s some fun _ => (slices_ContainsFunc_int_int.f k a0_2 (fun z0 => impl_IsMaze_1.f k z0)).bind fun t72 => some (!t72))

theorem impl_IsMaze.ok {k : Nat}  {a0_0 : Int} {a0_1 : List (Int × Int × Int)} {a0_2 : List Int} {r0 : Bool} (h : impl_IsMaze.f k a0_0 a0_1 a0_2 = some r0) (w : World) {va0_1 : Value} {va0_2 : Value} (hr_a0_1 : Rd w va0_1 a0_1) (hr_a0_2 : Rd w va0_2 a0_2) :
  Calls Try.prog 143 ([.agg ([.int .i64 a0_0, va0_1, va0_2].toArray)] : List Value).toArray w (fun e w' => e = .returned (.bool r0) ∧ Ext w w') := by
 unfold impl_IsMaze.f at h
 have hl_va0_1 := hr_a0_1.len
 have hl_va0_2 := hr_a0_2.len
 refine Calls.of_tri (N := 74) Try.func143 rfl rfl rfl (Sep.nil (M := noM)) ?_
 refine Tri.seq (Tri.reg (l := [0, 1]) rfl ?_)
 refine F.mn rfl (m_boxG rfl rfl) ?_
 rintro _ _ ⟨b1_1, rfl, rfl⟩
 refine F.qn rfl (r_assign rfl) (F.nil (Nrm.seq (Tri.seq (Tri.seq ?_))))
 obtain ⟨y22, hE_1, h⟩ := bind_some h
 refine Tri.cut (fun e' C' => e' = [(1, .pointer (some ⟨b1_1, 0, none⟩)), (22, .bool y22)] ∧ C' = Sep w noM [R.box b1_1 27 [.int .i64 a0_0, va0_1, va0_2]]) ?_ (fun hj_1 => ?_)
 ·rintro _ _ ⟨rfl, rfl⟩
  refine Nrm.seq (Tri.cond (b := y22) rfl (fun g_1 => ?_) (fun g_1 => ?_))
  ·replace h := if_tt g_1 h
   refine Tri.seq (Tri.reg (l := [0]) rfl ?_)
   refine F.qn rfl (r_assign rfl) (F.nil (Nrm.seq (Tri.ret ?_)))
   refine Rtn.then ?_
   cases h
   exact Rtn.body (.tmp rfl .nil) (fun w hw => ⟨rfl, hw.ext⟩)
  ·replace h := if_ff g_1 h
   refine Tri.skip (Nrm.seq (Tri.seq (Tri.seq (Tri.reg (l := [0, 1, 2, 3]) rfl ?_))))
   refine F.qn rfl (r_fieldAddr tf27_1 rfl) (F.qn rfl (r_load ta24 rfl (fun w hw => cell_1 (box_cells (i := 0) rfl w hw) rfl)) (F.qn rfl (r_len Try.underlying24 rfl hl_va0_1) (F.qn rfl (r_move rfl) (F.nil (Nrm.seq ?_)))))
   obtain ⟨s0, hE_2, h⟩ := bind_some h
   refine Tri.block ?_
   refine Tri.only [1, 24, 25, 26] rfl ?_
   refine Tri.pick [0] rfl rfl ?_
   refine Tri.rounds (fun n e' C' => ∃ (x26' : Int), impl_IsMaze.l0 k a0_0 a0_1 n x26' = some s0 ∧ e' = [(1, .pointer (some ⟨b1_1, 0, none⟩)), (24, va0_1), (25, .int .i64 (a0_1.length : Int)), (26, .int .i64 x26')] ∧ C' = Sep w noM [R.box b1_1 27 [.int .i64 a0_0, va0_1, va0_2]]) k ?_ ?_ ?_
   ·exact ⟨0, hE_2, rfl, rfl⟩
   ·rintro _ _ ⟨_, hE_2, _⟩
    rw [impl_IsMaze.l0.eq_1] at hE_2; cases hE_2
   ·rintro n_1 _ _ ⟨x26, hE_2, rfl, rfl⟩ ih_1
    rw [impl_IsMaze.l0.eq_2] at hE_2
    refine Tri.seq (Tri.reg (l := [0]) rfl ?_)
    refine F.qn rfl (r_lss rfl rfl) (F.nil (Nrm.seq (Tri.seq (Tri.cond (b := decide (x26 < (a0_1.length : Int))) rfl (fun g_2 => ?_) (fun g_2 => ?_)))))
    ·replace hE_2 := if_tt g_2 hE_2
     refine Tri.skip (Nrm.seq (Tri.seq (Tri.block ?_)))
     refine Tri.seq ?_
     obtain ⟨t29, h29, hE_2⟩ := bind_some hE_2
     refine Tri.reg (l := [0, 1, 2, 3, 4, 5]) rfl ?_
     refine F.qn rfl (r_move rfl) (F.qn rfl (r_indexAddrS Try.underlying24 ti121 rfl hl_va0_1 rfl (rdl_some h29).1 (rdl_some h29).2.1) (F.qn rfl (r_loadA ta121 ti121 rfl rfl (fun w hw => (Rd.flat ((fun _ hw => hr_a0_1.sep hw) w hw) (rdl_some h29).2.2))) ?_))
     refine F.mn rfl (m_alloc ti121) ?_
     rintro _ _ ⟨b4_1, rfl, rfl⟩
     refine F.qn rfl (r_assign rfl) ?_
     refine F.ef0 rfl rfl (wanted_none rfl) (d_storeG0 (i := 0) (cs2 := [.int .i64 t29.1, .int .i64 t29.2.1, .int .i64 t29.2.2]) ti121 rfl rfl rfl rfl rfl (Nat.le_of_ble_eq_true rfl) (lf_cons rfl (lf_cons rfl (lf_cons rfl lf_nil)))) ?_
     rintro _ _ ⟨rfl, rfl⟩
     refine F.nil (Nrm.seq (Tri.seq ?_))
     obtain ⟨y68, hE_3, hE_2⟩ := bind_some hE_2
     refine Tri.cut (fun e' C' => e' = [(1, .pointer (some ⟨b1_1, 0, none⟩)), (24, va0_1), (25, .int .i64 (a0_1.length : Int)), (26, .int .i64 x26), (68, .bool y68)] ∧ C' = Sep w noM [R.box b1_1 27 [.int .i64 a0_0, va0_1, va0_2]]) ?_ (fun hj_2 => ?_)
     ·rintro _ _ ⟨rfl, rfl⟩
      refine Nrm.seq (Tri.cond (b := y68) rfl (fun g_3 => ?_) (fun g_3 => ?_))
      ·replace hE_2 := if_tt g_3 hE_2
       refine Tri.seq (Tri.reg (l := [0]) rfl ?_)
       refine F.qn rfl (r_assign rfl) (F.nil (Nrm.seq (Tri.ret ?_)))
       refine Rtn.block ?_
       refine Rtn.then ?_
       refine Rtn.then ?_
       refine Rtn.block ?_
       refine Rtn.then ?_
       cases hE_2
       replace h := Lr_inr h
       cases h
       exact Rtn.body (.tmp rfl .nil) (fun w hw => ⟨rfl, hw.ext⟩)
      ·replace hE_2 := if_ff g_3 hE_2
       refine Tri.skip (Nrm.block ?_)
       refine Nrm.seq (Tri.reg (l := [0, 1]) rfl ?_)
       refine F.qn rfl (r_add rfl rfl) (F.qn rfl (r_move rfl) (F.nil (Nrm.round ?_)))
       refine Rnd.only [1, 24, 25, 26] rfl ?_
       refine Rnd.pick [0] rfl rfl ?_
       exact ih_1 _ _ ⟨w64 (x26 + 1), hE_2, rfl, rfl⟩
     ·rcases Bool.eq_false_or_eq_true (decide (t29.1 < 0)) with g34 | g34
      ·replace hE_3 := if_tt g34 hE_3
       refine Tri.drawA mixedT Sep.up [(0, true), (1, true), (2, true), (3, true), (4, true), (5, true), (6, true), (7, true), (8, true), (9, true), (10, true), (11, true), (12, true), (13, true), (14, true), (15, true), (16, true), (17, true), (18, true), (19, true), (20, true), (21, true), (22, true), (23, true), (24, true), (25, true), (26, true), (27, true), (28, true), (29, true), (30, true), (31, true), (32, true), (33, true), (34, true), (35, true), (36, true), (37, true)] [] (by kernel_rfl) ?_
       refine S.qn rfl (r_indexAddrA Try.underlying121 ti3 rfl rfl (by decide) (by decide)) (S.qn rfl (r_load ta3 rfl (fun w hw => cell_1 (box_cells (i := 0) rfl w hw) rfl)) (S.qn rfl (r_lss rfl rfl) (S.qn rfl (r_move rfl) ?_)))
       iterate 5 refine S.skf rfl g34 ?_
       refine S.qn rfl (r_pick rfl rfl g34) (S.qn rfl (r_move rfl) ?_)
       iterate 5 refine S.skf rfl rfl ?_
       refine S.qn rfl (r_pick rfl rfl rfl) (S.qn rfl (r_move rfl) ?_)
       iterate 4 refine S.skf rfl rfl ?_
       refine S.qn rfl (r_pick rfl rfl rfl) (S.qn rfl (r_move rfl) ?_)
       iterate 3 refine S.skf rfl rfl ?_
       iterate 9 refine S.sk rfl rfl rfl (wanted_undef rfl rfl rfl) ?_
       refine S.skf rfl rfl (S.qn rfl (r_pick rfl rfl rfl) (S.nil (F.nil ?_)))
       cases hE_3
       refine Nrm.only [1, 24, 25, 26, 68] rfl ?_
       refine Nrm.pick [1] rfl rfl ?_
       exact hj_2 _ _ ⟨rfl, rfl⟩
      ·replace hE_3 := if_ff g34 hE_3
       rcases Bool.eq_false_or_eq_true (decide (t29.1 ≥ t29.2.1)) with g41 | g41
       ·replace hE_3 := if_tt g41 hE_3
        refine Tri.drawA mixedT Sep.up [(0, true), (1, true), (2, true), (3, true), (4, true), (5, true), (6, true), (7, true), (8, true), (9, true), (10, true), (11, true), (12, true), (13, true), (14, true), (15, true), (16, true), (17, true), (18, true), (19, true), (20, true), (21, true), (22, true), (23, true), (24, true), (25, true), (26, true), (27, true), (28, true), (29, true), (30, true), (31, true), (32, true), (33, true), (34, true), (35, true), (36, true), (37, true)] [] (by kernel_rfl) ?_
        refine S.qn rfl (r_indexAddrA Try.underlying121 ti3 rfl rfl (by decide) (by decide)) (S.qn rfl (r_load ta3 rfl (fun w hw => cell_1 (box_cells (i := 0) rfl w hw) rfl)) (S.qn rfl (r_lss rfl rfl) (S.qn rfl (r_move rfl) (S.qg rfl g34 (r_indexAddrA Try.underlying121 ti3 rfl rfl (by decide) (by decide)) ?_))))
        refine S.qg rfl g34 (r_load ta3 rfl (fun w hw => cell_1 (box_cells (i := 0) rfl w hw) rfl)) (S.qg rfl g34 (r_indexAddrA Try.underlying121 ti3 rfl rfl (by decide) (by decide)) (S.qg rfl g34 (r_load ta3 rfl (fun w hw => cell_1 (box_cells (i := 0) rfl w hw) rfl)) (S.qg rfl g34 (r_geq rfl rfl) (S.qn rfl (r_pickf rfl rfl g34) (S.qn rfl (r_move rfl) ?_)))))
        iterate 5 refine S.skf rfl g41 ?_
        refine S.qn rfl (r_pick rfl rfl g41) (S.qn rfl (r_move rfl) ?_)
        iterate 4 refine S.skf rfl rfl ?_
        refine S.qn rfl (r_pick rfl rfl rfl) (S.qn rfl (r_move rfl) ?_)
        iterate 3 refine S.skf rfl rfl ?_
        iterate 9 refine S.sk rfl rfl rfl (wanted_undef rfl rfl rfl) ?_
        refine S.skf rfl rfl (S.qn rfl (r_pick rfl rfl rfl) (S.nil (F.nil ?_)))
        cases hE_3
        refine Nrm.only [1, 24, 25, 26, 68] rfl ?_
        refine Nrm.pick [1] rfl rfl ?_
        exact hj_2 _ _ ⟨rfl, rfl⟩
       ·replace hE_3 := if_ff g41 hE_3
        rcases Bool.eq_false_or_eq_true (decide (t29.2.1 ≥ a0_0)) with g48 | g48
        ·replace hE_3 := if_tt g48 hE_3
         refine Tri.drawA mixedT Sep.up [(0, true), (1, true), (2, true), (3, true), (4, true), (5, true), (6, true), (7, true), (8, true), (9, true), (10, true), (11, true), (12, true), (13, true), (14, true), (15, true), (16, true), (17, true), (18, true), (19, true), (20, true), (21, true), (22, true), (23, true), (24, true), (25, true), (26, true), (27, true), (28, true), (29, true), (30, true), (31, true), (32, true), (33, true), (34, true), (35, true), (36, true), (37, true)] [] (by kernel_rfl) ?_
         refine S.qn rfl (r_indexAddrA Try.underlying121 ti3 rfl rfl (by decide) (by decide)) (S.qn rfl (r_load ta3 rfl (fun w hw => cell_1 (box_cells (i := 0) rfl w hw) rfl)) (S.qn rfl (r_lss rfl rfl) (S.qn rfl (r_move rfl) (S.qg rfl g34 (r_indexAddrA Try.underlying121 ti3 rfl rfl (by decide) (by decide)) (S.qg rfl g34 (r_load ta3 rfl (fun w hw => cell_1 (box_cells (i := 0) rfl w hw) rfl)) ?_)))))
         refine S.qg rfl g34 (r_indexAddrA Try.underlying121 ti3 rfl rfl (by decide) (by decide)) (S.qg rfl g34 (r_load ta3 rfl (fun w hw => cell_1 (box_cells (i := 0) rfl w hw) rfl)) (S.qg rfl g34 (r_geq rfl rfl) (S.qn rfl (r_pickf rfl rfl g34) (S.qn rfl (r_move rfl) (S.qg rfl g41 (r_indexAddrA Try.underlying121 ti3 rfl rfl (by decide) (by decide)) ?_)))))
         refine S.qg rfl g41 (r_load ta3 rfl (fun w hw => cell_1 (box_cells (i := 0) rfl w hw) rfl)) (S.qg rfl g41 (r_fieldAddr tf27_0 rfl) (S.qg rfl g41 (r_load ta3 rfl (fun w hw => cell_1 (box_cells (i := 1) rfl w hw) rfl)) (S.qg rfl g41 (r_geq rfl rfl) (S.qn rfl (r_pickf rfl rfl g41) (S.qn rfl (r_move rfl) ?_)))))
         iterate 4 refine S.skf rfl g48 ?_
         refine S.qn rfl (r_pick rfl rfl g48) (S.qn rfl (r_move rfl) ?_)
         iterate 3 refine S.skf rfl rfl ?_
         iterate 9 refine S.sk rfl rfl rfl (wanted_undef rfl rfl rfl) ?_
         refine S.skf rfl rfl (S.qn rfl (r_pick rfl rfl rfl) (S.nil (F.nil ?_)))
         cases hE_3
         refine Nrm.only [1, 24, 25, 26, 68] rfl ?_
         refine Nrm.pick [1] rfl rfl ?_
         exact hj_2 _ _ ⟨rfl, rfl⟩
        ·replace hE_3 := if_ff g48 hE_3
         obtain ⟨t51, h51, hE_3⟩ := bind_some hE_3
         rcases Bool.eq_false_or_eq_true (!t51) with g54 | g54
         ·replace hE_3 := if_tt g54 hE_3
          refine Tri.drawA mixedT Sep.up [(0, true), (1, true), (2, true), (3, true), (4, true), (5, true), (6, true), (7, true), (8, true), (9, true), (10, true), (11, true), (12, true), (13, true), (14, true), (15, true), (16, true), (17, true), (18, true), (19, true), (20, true), (21, true), (22, true), (23, true), (24, true), (25, true), (26, true), (27, true), (28, true), (29, true), (30, true), (31, true), (32, true), (33, true), (34, true), (35, true), (36, true), (37, true)] [] (by kernel_rfl) ?_
          refine S.qn rfl (r_indexAddrA Try.underlying121 ti3 rfl rfl (by decide) (by decide)) (S.qn rfl (r_load ta3 rfl (fun w hw => cell_1 (box_cells (i := 0) rfl w hw) rfl)) ?_)
          refine S.qn rfl (r_lss rfl rfl) (S.qn rfl (r_move rfl) (S.qg rfl g34 (r_indexAddrA Try.underlying121 ti3 rfl rfl (by decide) (by decide)) (S.qg rfl g34 (r_load ta3 rfl (fun w hw => cell_1 (box_cells (i := 0) rfl w hw) rfl)) (S.qg rfl g34 (r_indexAddrA Try.underlying121 ti3 rfl rfl (by decide) (by decide)) (S.qg rfl g34 (r_load ta3 rfl (fun w hw => cell_1 (box_cells (i := 0) rfl w hw) rfl)) ?_)))))
          refine S.qg rfl g34 (r_geq rfl rfl) (S.qn rfl (r_pickf rfl rfl g34) (S.qn rfl (r_move rfl) (S.qg rfl g41 (r_indexAddrA Try.underlying121 ti3 rfl rfl (by decide) (by decide)) (S.qg rfl g41 (r_load ta3 rfl (fun w hw => cell_1 (box_cells (i := 0) rfl w hw) rfl)) (S.qg rfl g41 (r_fieldAddr tf27_0 rfl) ?_)))))
          refine S.qg rfl g41 (r_load ta3 rfl (fun w hw => cell_1 (box_cells (i := 1) rfl w hw) rfl)) (S.qg rfl g41 (r_geq rfl rfl) (S.qn rfl (r_pickf rfl rfl g41) (S.qn rfl (r_move rfl) (S.qg rfl g48 (r_indexAddrA Try.underlying121 ti3 rfl rfl (by decide) (by decide)) (S.qg rfl g48 (r_load ta3 rfl (fun w hw => cell_1 (box_cells (i := 0) rfl w hw) rfl)) ?_)))))
          refine S.qc rfl rfl rfl (wg rfl rfl rfl g48) (q_callF (xs := _) rfl ok101 rfl rfl (fun w hw => impl_isSet.ok h51 w )) ?_
          refine S.qg rfl g48 (r_not rfl) (S.qn rfl (r_pickf rfl rfl g48) (S.qn rfl (r_move rfl) ?_))
          iterate 3 refine S.skf rfl g54 ?_
          iterate 9 refine S.sk rfl rfl rfl (wanted_undef rfl rfl rfl) ?_
          refine S.skf rfl g54 (S.qn rfl (r_pick rfl rfl g54) (S.nil (F.nil ?_)))
          cases hE_3
          refine Nrm.only [1, 24, 25, 26, 68] rfl ?_
          refine Nrm.pick [1] rfl rfl ?_
          exact hj_2 _ _ ⟨rfl, rfl⟩
         ·replace hE_3 := if_ff g54 hE_3
          rcases Bool.eq_false_or_eq_true (decide (x26 > 0)) with g57 | g57
          ·replace hE_3 := if_tt g57 hE_3
           obtain ⟨t62, h62, hE_3⟩ := bind_some hE_3
           obtain ⟨t65, h65, hE_3⟩ := bind_some hE_3
           refine Tri.drawA mixedT Sep.up [(0, true), (1, true), (2, true), (3, true), (4, true), (5, true), (6, true), (7, true), (8, true), (9, true), (10, true), (11, true), (12, true), (13, true), (14, true), (15, true), (16, true), (17, true), (18, true), (19, true), (20, true), (21, true), (22, true), (23, true), (24, true), (25, true), (26, true), (27, true), (28, true), (29, true), (30, true), (31, true), (32, true), (33, true), (34, true), (35, true), (36, true), (37, true)] [] (by kernel_rfl) ?_
           refine S.qn rfl (r_indexAddrA Try.underlying121 ti3 rfl rfl (by decide) (by decide)) (S.qn rfl (r_load ta3 rfl (fun w hw => cell_1 (box_cells (i := 0) rfl w hw) rfl)) ?_)
           refine S.qn rfl (r_lss rfl rfl) (S.qn rfl (r_move rfl) (S.qg rfl g34 (r_indexAddrA Try.underlying121 ti3 rfl rfl (by decide) (by decide)) (S.qg rfl g34 (r_load ta3 rfl (fun w hw => cell_1 (box_cells (i := 0) rfl w hw) rfl)) (S.qg rfl g34 (r_indexAddrA Try.underlying121 ti3 rfl rfl (by decide) (by decide)) (S.qg rfl g34 (r_load ta3 rfl (fun w hw => cell_1 (box_cells (i := 0) rfl w hw) rfl)) ?_)))))
           refine S.qg rfl g34 (r_geq rfl rfl) (S.qn rfl (r_pickf rfl rfl g34) (S.qn rfl (r_move rfl) (S.qg rfl g41 (r_indexAddrA Try.underlying121 ti3 rfl rfl (by decide) (by decide)) (S.qg rfl g41 (r_load ta3 rfl (fun w hw => cell_1 (box_cells (i := 0) rfl w hw) rfl)) (S.qg rfl g41 (r_fieldAddr tf27_0 rfl) ?_)))))
           refine S.qg rfl g41 (r_load ta3 rfl (fun w hw => cell_1 (box_cells (i := 1) rfl w hw) rfl)) (S.qg rfl g41 (r_geq rfl rfl) (S.qn rfl (r_pickf rfl rfl g41) (S.qn rfl (r_move rfl) (S.qg rfl g48 (r_indexAddrA Try.underlying121 ti3 rfl rfl (by decide) (by decide)) (S.qg rfl g48 (r_load ta3 rfl (fun w hw => cell_1 (box_cells (i := 0) rfl w hw) rfl)) ?_)))))
           refine S.qc rfl rfl rfl (wg rfl rfl rfl g48) (q_callF (xs := _) rfl ok101 rfl rfl (fun w hw => impl_isSet.ok h51 w )) ?_
           refine S.qg rfl g48 (r_not rfl) ?_
           refine S.qn rfl (r_pickf rfl rfl g48) (S.qn rfl (r_move rfl) (S.qg rfl g54 (r_move rfl) (S.qg rfl g54 (r_gtr rfl rfl) (S.qg rfl g54 (r_move rfl) (S.qg rfl g57 (r_fieldAddr tf27_1 rfl) ?_)))))
           refine S.qg rfl g57 (r_load ta24 rfl (fun w hw => cell_1 (box_cells (i := 1) rfl w hw) rfl)) (S.qg rfl g57 (r_move rfl) (S.qg rfl g57 (r_sub rfl rfl) (S.qg rfl g57 (r_indexAddrS Try.underlying24 ti121 rfl hl_va0_1 rfl (rdl_some h62).1 (rdl_some h62).2.1) (S.qg rfl g57 (r_loadA ta121 ti121 rfl rfl (fun w hw => (Rd.flat ((fun _ hw => hr_a0_1.sep hw) w hw) (rdl_some h62).2.2))) (S.qg rfl g57 (r_loadA ta121 ti121 rfl rfl (fun w hw => (box_cells (i := 0) rfl w hw))) ?_)))))
           refine S.qc rfl rfl rfl (wg rfl rfl rfl g57) (q_callF (xs := _) rfl ok195 rfl rfl (fun w hw => impl_compareDoors.ok h65 w )) ?_
           refine S.qg rfl g57 (r_geq rfl rfl) (S.qg rfl g54 (r_pick rfl rfl g57) (S.qn rfl (r_pickf rfl rfl g54) (S.nil (F.nil ?_))))
           cases hE_3
           refine Nrm.only [1, 24, 25, 26, 68] rfl ?_
           refine Nrm.pick [1] rfl rfl ?_
           exact hj_2 _ _ ⟨rfl, rfl⟩
          ·replace hE_3 := if_ff g57 hE_3
           refine Tri.drawA mixedT Sep.up [(0, true), (1, true), (2, true), (3, true), (4, true), (5, true), (6, true), (7, true), (8, true), (9, true), (10, true), (11, true), (12, true), (13, true), (14, true), (15, true), (16, true), (17, true), (18, true), (19, true), (20, true), (21, true), (22, true), (23, true), (24, true), (25, true), (26, true), (27, true), (28, true), (29, true), (30, true), (31, true), (32, true), (33, true), (34, true), (35, true), (36, true), (37, true)] [] (by kernel_rfl) ?_
           refine S.qn rfl (r_indexAddrA Try.underlying121 ti3 rfl rfl (by decide) (by decide)) (S.qn rfl (r_load ta3 rfl (fun w hw => cell_1 (box_cells (i := 0) rfl w hw) rfl)) ?_)
           refine S.qn rfl (r_lss rfl rfl) (S.qn rfl (r_move rfl) (S.qg rfl g34 (r_indexAddrA Try.underlying121 ti3 rfl rfl (by decide) (by decide)) (S.qg rfl g34 (r_load ta3 rfl (fun w hw => cell_1 (box_cells (i := 0) rfl w hw) rfl)) (S.qg rfl g34 (r_indexAddrA Try.underlying121 ti3 rfl rfl (by decide) (by decide)) (S.qg rfl g34 (r_load ta3 rfl (fun w hw => cell_1 (box_cells (i := 0) rfl w hw) rfl)) ?_)))))
           refine S.qg rfl g34 (r_geq rfl rfl) (S.qn rfl (r_pickf rfl rfl g34) (S.qn rfl (r_move rfl) (S.qg rfl g41 (r_indexAddrA Try.underlying121 ti3 rfl rfl (by decide) (by decide)) (S.qg rfl g41 (r_load ta3 rfl (fun w hw => cell_1 (box_cells (i := 0) rfl w hw) rfl)) (S.qg rfl g41 (r_fieldAddr tf27_0 rfl) ?_)))))
           refine S.qg rfl g41 (r_load ta3 rfl (fun w hw => cell_1 (box_cells (i := 1) rfl w hw) rfl)) (S.qg rfl g41 (r_geq rfl rfl) (S.qn rfl (r_pickf rfl rfl g41) (S.qn rfl (r_move rfl) (S.qg rfl g48 (r_indexAddrA Try.underlying121 ti3 rfl rfl (by decide) (by decide)) (S.qg rfl g48 (r_load ta3 rfl (fun w hw => cell_1 (box_cells (i := 0) rfl w hw) rfl)) ?_)))))
           refine S.qc rfl rfl rfl (wg rfl rfl rfl g48) (q_callF (xs := _) rfl ok101 rfl rfl (fun w hw => impl_isSet.ok h51 w )) ?_
           refine S.qg rfl g48 (r_not rfl) (S.qn rfl (r_pickf rfl rfl g48) (S.qn rfl (r_move rfl) (S.qg rfl g54 (r_move rfl) (S.qg rfl g54 (r_gtr rfl rfl) (S.qg rfl g54 (r_move rfl) ?_)))))
           iterate 9 refine S.skf rfl g57 ?_
           refine S.qg rfl g54 (r_pickf rfl rfl g57) (S.qn rfl (r_pickf rfl rfl g54) (S.nil (F.nil ?_)))
           cases hE_3
           refine Nrm.only [1, 24, 25, 26, 68] rfl ?_
           refine Nrm.pick [1] rfl rfl ?_
           exact hj_2 _ _ ⟨rfl, rfl⟩
    ·replace hE_2 := if_ff g_2 hE_2
     refine Tri.exit ?_
     refine Exi.then ?_
     refine Exi.then ?_
     refine Exi.same ?_
     cases hE_2
     replace h := Lr_inl h
     refine Nrm.seq (Tri.seq ?_)
     obtain ⟨t72, h72, h⟩ := bind_some h
     refine Tri.reg (l := [0, 1, 2, 3, 4]) rfl ?_
     refine F.qn rfl (r_fieldAddr tf27_2 rfl) (F.qn rfl (r_load ta25 rfl (fun w hw => cell_1 (box_cells (i := 0) rfl w hw) rfl)) ?_)
     refine F.qcn rfl (q_callF (xs := _) rfl ok150 rfl rfl (fun w hw => slices_ContainsFunc_int_int.ok h72 w ((fun _ hw => hr_a0_2.sep hw) w hw) ok196 (fun w2 he2 z0 y2 hy2 => impl_IsMaze_1.ok hy2 w2 ))) ?_
     refine F.qn rfl (r_not rfl) (F.qn rfl (r_assign rfl) (F.nil (Nrm.seq (Tri.ret ?_))))
     cases h
     exact Rtn.body (.tmp rfl .nil) (fun w hw => ⟨rfl, hw.ext⟩)
 ·obtain ⟨t7, h7, hE_1⟩ := bind_some hE_1
  rcases Bool.eq_false_or_eq_true (!t7) with g9 | g9
  ·replace hE_1 := if_tt g9 hE_1
   refine Tri.reg (l := List.range 18) rfl ?_
   refine F.qn rfl (r_fieldAddr tf27_0 rfl) (F.qn rfl (r_load ta3 rfl (fun w hw => cell_1 (box_cells (i := 0) rfl w hw) rfl)) ?_)
   refine F.qcn rfl (q_callF (xs := _) rfl ok149 rfl rfl (fun w hw => impl_within.ok h7 w )) ?_
   refine F.qn rfl (r_not rfl) (F.qn rfl (r_move rfl) ?_)
   iterate 4 refine F.skf rfl g9 ?_
   refine F.qn rfl (r_pick rfl rfl g9) (F.qn rfl (r_move rfl) ?_)
   iterate 6 refine F.skf rfl rfl ?_
   refine F.qn rfl (r_pick rfl rfl rfl) (F.nil ?_)
   cases hE_1
   refine Nrm.only [1, 22] rfl ?_
   refine Nrm.pick [0] rfl rfl ?_
   exact hj_1 _ _ ⟨rfl, rfl⟩
  ·replace hE_1 := if_ff g9 hE_1
   rcases Bool.eq_false_or_eq_true (decide ((a0_1.length : Int) > 30)) with g15 | g15
   ·replace hE_1 := if_tt g15 hE_1
    refine Tri.reg (l := List.range 18) rfl ?_
    refine F.qn rfl (r_fieldAddr tf27_0 rfl) (F.qn rfl (r_load ta3 rfl (fun w hw => cell_1 (box_cells (i := 0) rfl w hw) rfl)) ?_)
    refine F.qcn rfl (q_callF (xs := _) rfl ok149 rfl rfl (fun w hw => impl_within.ok h7 w )) ?_
    refine F.qn rfl (r_not rfl) (F.qn rfl (r_move rfl) ?_)
    refine F.qg rfl g9 (r_fieldAddr tf27_1 rfl) (F.qg rfl g9 (r_load ta24 rfl (fun w hw => cell_1 (box_cells (i := 0) rfl w hw) rfl)) (F.qg rfl g9 (r_len Try.underlying24 rfl hl_va0_1) (F.qg rfl g9 (r_gtr rfl rfl) (F.qn rfl (r_pickf rfl rfl g9) (F.qn rfl (r_move rfl) ?_)))))
    iterate 6 refine F.skf rfl g15 ?_
    refine F.qn rfl (r_pick rfl rfl g15) (F.nil ?_)
    cases hE_1
    refine Nrm.only [1, 22] rfl ?_
    refine Nrm.pick [0] rfl rfl ?_
    exact hj_1 _ _ ⟨rfl, rfl⟩
   ·replace hE_1 := if_ff g15 hE_1
    refine Tri.reg (l := List.range 18) rfl ?_
    refine F.qn rfl (r_fieldAddr tf27_0 rfl) (F.qn rfl (r_load ta3 rfl (fun w hw => cell_1 (box_cells (i := 0) rfl w hw) rfl)) ?_)
    refine F.qcn rfl (q_callF (xs := _) rfl ok149 rfl rfl (fun w hw => impl_within.ok h7 w )) ?_
    refine F.qn rfl (r_not rfl) (F.qn rfl (r_move rfl) (F.qg rfl g9 (r_fieldAddr tf27_1 rfl) ?_))
    refine F.qg rfl g9 (r_load ta24 rfl (fun w hw => cell_1 (box_cells (i := 0) rfl w hw) rfl)) (F.qg rfl g9 (r_len Try.underlying24 rfl hl_va0_1) (F.qg rfl g9 (r_gtr rfl rfl) (F.qn rfl (r_pickf rfl rfl g9) (F.qn rfl (r_move rfl) (F.qg rfl g15 (r_fieldAddr tf27_2 rfl) ?_)))))
    refine F.qg rfl g15 (r_load ta25 rfl (fun w hw => cell_1 (box_cells (i := 0) rfl w hw) rfl)) (F.qg rfl g15 (r_len Try.underlying25 rfl hl_va0_2) (F.qg rfl g15 (r_fieldAddr tf27_0 rfl) (F.qg rfl g15 (r_load ta3 rfl (fun w hw => cell_1 (box_cells (i := 0) rfl w hw) rfl)) (F.qg rfl g15 (r_neq rfl rfl) (F.qn rfl (r_pickf rfl rfl g15) (F.nil ?_))))))
    cases hE_1
    refine Nrm.only [1, 22] rfl ?_
    refine Nrm.pick [0] rfl rfl ?_
    exact hj_1 _ _ ⟨rfl, rfl⟩


def impl_IsWorlds_1.f (k : Nat) (a0 : Int) (c0_0 : List (Int × List (Int × Int × Int) × List Int)) (c0_1 : List (List Int)) : Option (Bool) := (impl_within.f k a0 0 (w64 ((c0_0.length : Int) - 1))).bind fun t9 => some (!t9)

theorem impl_IsWorlds_1.ok {k : Nat} {pc0 : Addr} {a0 : Int} {c0_0 : List (Int × List (Int × Int × Int) × List Int)} {c0_1 : List (List Int)} {r0 : Bool} (h : impl_IsWorlds_1.f k a0 c0_0 c0_1 = some r0) (w : World) {vc0_0 : Value} {vc0_1 : Value} (hb_c0 : CellsAt w pc0 [vc0_0, vc0_1]) (hr_c0_0 : Rd w vc0_0 c0_0) (hr_c0_1 : Rd w vc0_1 c0_1) :
  Calls Try.prog 151 ([.int .i64 a0, .pointer (some pc0)] : List Value).toArray w (fun e w' => e = .returned (.bool r0) ∧ Ext w w') := by
 unfold impl_IsWorlds_1.f at h
 have hl_vc0_0 := hr_c0_0.len
 have hl_vc0_1 := hr_c0_1.len
 refine Calls.of_tri (N := 11) Try.func151 rfl rfl rfl (Sep.nil (M := noM)) ?_
 refine Tri.seq (Tri.reg (l := [0]) rfl ?_)
 refine F.qn rfl (r_assign rfl) (F.nil (Nrm.seq (Tri.seq ?_)))
 obtain ⟨t9, h9, h⟩ := bind_some h
 refine Tri.reg (l := [0, 1, 2, 3, 4, 5, 6, 7]) rfl ?_
 refine F.qn rfl (r_move rfl) (F.qn rfl (r_fieldAddr tf85_0 rfl) (F.qn rfl (r_load ta82 rfl (fun w hw => cell_1 (hb_c0.sep hw) rfl)) (F.qn rfl (r_len Try.underlying82 rfl hl_vc0_0) (F.qn rfl (r_sub rfl rfl) ?_))))
 refine F.qcn rfl (q_callF (xs := _) rfl ok149 rfl rfl (fun w hw => impl_within.ok h9 w )) ?_
 refine F.qn rfl (r_not rfl) (F.qn rfl (r_assign rfl) (F.nil (Nrm.seq (Tri.ret ?_))))
 cases h
 exact Rtn.body (.tmp rfl .nil) (fun w hw => ⟨rfl, hw.ext⟩)


def impl_IsWorlds.l0 (k : Nat) (a0_0 : List (Int × List (Int × Int × Int) × List Int)) (a0_1 : List (List Int)) : Nat → Int → Option ((Unit) ⊕ (Bool))
 | 0, _ => none
 | n + 1, x22 => (if (decide (x22 < (a0_0.length : Int))) = true then (rdl a0_0 x22).bind fun t25 => ((impl_IsMaze.f k t25.1 t25.2.1 t25.2.2).bind fun t28 => (if (!t28) = true then some true else (rdl a0_1 x22).bind fun t34 => some ((t34.length : Int) != t25.1))).bind fun y40 => (if y40 = true then some (Sum.inr false) else (rdl a0_1 x22).bind fun t44 => (slices_ContainsFunc_int_int.f k t44 (fun z0 => impl_IsWorlds_1.f k z0 a0_0 a0_1)).bind fun t47 => (if t47 = true then some (Sum.inr false) else impl_IsWorlds.l0 k a0_0 a0_1 n (w64 (x22 + 1)))) else some (Sum.inl ()))

def impl_IsWorlds.f (k : Nat) (a0_0 : List (Int × List (Int × Int × Int) × List Int)) (a0_1 : List (List Int)) : Option (Bool) := ((impl_within.f k (a0_0.length : Int) 1 3).bind fun t8 => (if (!t8) = true then some true else some ((a0_1.length : Int) != (a0_0.length : Int)))).bind fun y18 => (if y18 = true then some false else (impl_IsWorlds.l0 k a0_0 a0_1 k 0).bind fun s => Lr s some fun _ => some true)

theorem impl_IsWorlds.ok {k : Nat}  {a0_0 : List (Int × List (Int × Int × Int) × List Int)} {a0_1 : List (List Int)} {r0 : Bool} (h : impl_IsWorlds.f k a0_0 a0_1 = some r0) (w : World) {va0_0 : Value} {va0_1 : Value} (hr_a0_0 : Rd w va0_0 a0_0) (hr_a0_1 : Rd w va0_1 a0_1) :
  Calls Try.prog 69 ([.agg ([va0_0, va0_1].toArray)] : List Value).toArray w (fun e w' => e = .returned (.bool r0) ∧ Ext w w') := by
 unfold impl_IsWorlds.f at h
 have hl_va0_0 := hr_a0_0.len
 have hl_va0_1 := hr_a0_1.len
 refine Calls.of_tri (N := 49) Try.func69 rfl rfl rfl (Sep.nil (M := noM)) ?_
 refine Tri.seq (Tri.reg (l := [0, 1]) rfl ?_)
 refine F.mn rfl (m_boxG rfl rfl) ?_
 rintro _ _ ⟨b1_1, rfl, rfl⟩
 refine F.qn rfl (r_assign rfl) (F.nil (Nrm.seq (Tri.seq (Tri.seq ?_))))
 obtain ⟨y18, hE_1, h⟩ := bind_some h
 refine Tri.cut (fun e' C' => e' = [(1, .pointer (some ⟨b1_1, 0, none⟩)), (18, .bool y18)] ∧ C' = Sep w noM [R.box b1_1 85 [va0_0, va0_1]]) ?_ (fun hj_1 => ?_)
 ·rintro _ _ ⟨rfl, rfl⟩
  refine Nrm.seq (Tri.cond (b := y18) rfl (fun g_1 => ?_) (fun g_1 => ?_))
  ·replace h := if_tt g_1 h
   refine Tri.seq (Tri.reg (l := [0]) rfl ?_)
   refine F.qn rfl (r_assign rfl) (F.nil (Nrm.seq (Tri.ret ?_)))
   refine Rtn.then ?_
   cases h
   exact Rtn.body (.tmp rfl .nil) (fun w hw => ⟨rfl, hw.ext⟩)
  ·replace h := if_ff g_1 h
   refine Tri.skip (Nrm.seq (Tri.seq (Tri.seq (Tri.reg (l := [0, 1, 2, 3]) rfl ?_))))
   refine F.qn rfl (r_fieldAddr tf85_0 rfl) (F.qn rfl (r_load ta82 rfl (fun w hw => cell_1 (box_cells (i := 0) rfl w hw) rfl)) (F.qn rfl (r_len Try.underlying82 rfl hl_va0_0) (F.qn rfl (r_move rfl) (F.nil (Nrm.seq ?_)))))
   obtain ⟨s0, hE_2, h⟩ := bind_some h
   refine Tri.block ?_
   refine Tri.only [1, 20, 21, 22] rfl ?_
   refine Tri.pick [0] rfl rfl ?_
   refine Tri.rounds (fun n e' C' => ∃ (x22' : Int), impl_IsWorlds.l0 k a0_0 a0_1 n x22' = some s0 ∧ e' = [(1, .pointer (some ⟨b1_1, 0, none⟩)), (20, va0_0), (21, .int .i64 (a0_0.length : Int)), (22, .int .i64 x22')] ∧ C' = Sep w noM [R.box b1_1 85 [va0_0, va0_1]]) k ?_ ?_ ?_
   ·exact ⟨0, hE_2, rfl, rfl⟩
   ·rintro _ _ ⟨_, hE_2, _⟩
    rw [impl_IsWorlds.l0.eq_1] at hE_2; cases hE_2
   ·rintro n_1 _ _ ⟨x22, hE_2, rfl, rfl⟩ ih_1
    rw [impl_IsWorlds.l0.eq_2] at hE_2
    refine Tri.seq (Tri.reg (l := [0]) rfl ?_)
    refine F.qn rfl (r_lss rfl rfl) (F.nil (Nrm.seq (Tri.seq (Tri.cond (b := decide (x22 < (a0_0.length : Int))) rfl (fun g_2 => ?_) (fun g_2 => ?_)))))
    ·replace hE_2 := if_tt g_2 hE_2
     refine Tri.skip (Nrm.seq (Tri.seq (Tri.block ?_)))
     refine Tri.seq ?_
     obtain ⟨t25, h25, hE_2⟩ := bind_some hE_2
     obtain ⟨_, hc25, hp25⟩ := Rd.elem hr_a0_0 (rdl_some h25).2.2
     obtain ⟨v25_1, v25_2, rfl, hr_v25_1, hr_v25_2⟩ := op27 hp25
     have hl_v25_1 := hr_v25_1.len
     have hl_v25_2 := hr_v25_2.len
     refine Tri.reg (l := [0, 1, 2, 3, 4, 5]) rfl ?_
     refine F.qn rfl (r_move rfl) (F.qn rfl (r_indexAddrS Try.underlying82 ti27 rfl hl_va0_0 rfl (rdl_some h25).1 (rdl_some h25).2.1) (F.qn rfl (r_loadA ta27 ti27 rfl rfl (fun w hw => (hc25.sep hw))) ?_))
     refine F.mn rfl (m_alloc ti27) ?_
     rintro _ _ ⟨b4_1, rfl, rfl⟩
     refine F.qn rfl (r_assign rfl) ?_
     refine F.ef0 rfl rfl (wanted_none rfl) (d_storeG0 (i := 0) (cs2 := [.int .i64 t25.1, v25_1, v25_2]) ti27 rfl rfl rfl rfl rfl (Nat.le_of_ble_eq_true rfl) (lf_cons rfl (lf_cons (sl_leaf hl_v25_1) (lf_cons (sl_leaf hl_v25_2) lf_nil)))) ?_
     rintro _ _ ⟨rfl, rfl⟩
     refine F.nil (Nrm.seq (Tri.seq (Tri.seq ?_)))
     obtain ⟨y40, hE_3, hE_2⟩ := bind_some hE_2
     refine Tri.cut (fun e' C' => e' = [(1, .pointer (some ⟨b1_1, 0, none⟩)), (3, .int .i64 x22), (20, va0_0), (21, .int .i64 (a0_0.length : Int)), (22, .int .i64 x22), (40, .bool y40)] ∧ C' = Sep w noM [R.box b1_1 85 [va0_0, va0_1]]) ?_ (fun hj_2 => ?_)
     ·rintro _ _ ⟨rfl, rfl⟩
      refine Nrm.seq (Tri.cond (b := y40) rfl (fun g_3 => ?_) (fun g_3 => ?_))
      ·replace hE_2 := if_tt g_3 hE_2
       refine Tri.seq (Tri.reg (l := [0]) rfl ?_)
       refine F.qn rfl (r_assign rfl) (F.nil (Nrm.seq (Tri.ret ?_)))
       refine Rtn.then ?_
       refine Rtn.block ?_
       refine Rtn.then ?_
       refine Rtn.then ?_
       refine Rtn.block ?_
       refine Rtn.then ?_
       cases hE_2
       replace h := Lr_inr h
       cases h
       exact Rtn.body (.tmp rfl .nil) (fun w hw => ⟨rfl, hw.ext⟩)
      ·replace hE_2 := if_ff g_3 hE_2
       refine Tri.skip (Nrm.seq (Tri.seq ?_))
       obtain ⟨t44, h44, hE_2⟩ := bind_some hE_2
       obtain ⟨_, hc44, hp44⟩ := Rd.elem hr_a0_1 (rdl_some h44).2.2
       obtain ⟨v44_0, rfl, hr_v44_0⟩ := op25 hp44
       have hl_v44_0 := hr_v44_0.len
       obtain ⟨t47, h47, hE_2⟩ := bind_some hE_2
       refine Tri.reg (l := [0, 1, 2, 3, 4, 5, 6]) rfl ?_
       refine F.qn rfl (r_fieldAddr tf85_1 rfl) (F.qn rfl (r_load ta83 rfl (fun w hw => cell_1 (box_cells (i := 0) rfl w hw) rfl)) (F.qn rfl (r_move rfl) (F.qn rfl (r_indexAddrS Try.underlying83 ti25 rfl hl_va0_1 rfl (rdl_some h44).1 (rdl_some h44).2.1) (F.qn rfl (r_load ta25 rfl (fun w hw => cell_0 (hc44.sep hw) rfl)) (F.qn rfl (r_makeFunc rfl) ?_)))))
       refine F.qcn rfl (q_callF (xs := _) rfl ok150 rfl rfl (fun w hw => slices_ContainsFunc_int_int.ok h47 w ((fun _ hw => hr_v44_0.sep hw) w hw) ok151 (fun w2 he2 z0 y2 hy2 => impl_IsWorlds_1.ok hy2 w2 ((box_cells (i := 0) rfl w hw).ext he2) (((fun _ hw => hr_a0_0.sep hw) w hw).ext he2) (((fun _ hw => hr_a0_1.sep hw) w hw).ext he2)))) ?_
       refine F.nil (Nrm.seq (Tri.cond (b := t47) rfl (fun g_4 => ?_) (fun g_4 => ?_)))
       ·replace hE_2 := if_tt g_4 hE_2
        refine Tri.seq (Tri.reg (l := [0]) rfl ?_)
        refine F.qn rfl (r_assign rfl) (F.nil (Nrm.seq (Tri.ret ?_)))
        refine Rtn.block ?_
        refine Rtn.then ?_
        refine Rtn.then ?_
        refine Rtn.block ?_
        refine Rtn.then ?_
        cases hE_2
        replace h := Lr_inr h
        cases h
        exact Rtn.body (.tmp rfl .nil) (fun w hw => ⟨rfl, hw.ext⟩)
       ·replace hE_2 := if_ff g_4 hE_2
        refine Tri.skip (Nrm.block ?_)
        refine Nrm.seq (Tri.reg (l := [0, 1]) rfl ?_)
        refine F.qn rfl (r_add rfl rfl) (F.qn rfl (r_move rfl) (F.nil (Nrm.round ?_)))
        refine Rnd.only [1, 20, 21, 22] rfl ?_
        refine Rnd.pick [0] rfl rfl ?_
        exact ih_1 _ _ ⟨w64 (x22 + 1), hE_2, rfl, rfl⟩
     ·obtain ⟨t28, h28, hE_3⟩ := bind_some hE_3
      rcases Bool.eq_false_or_eq_true (!t28) with g30 | g30
      ·replace hE_3 := if_tt g30 hE_3
       refine Tri.drawA mixedT Sep.up [(0, true), (1, true), (2, true), (3, true), (4, true), (5, true), (6, true), (7, true), (8, true), (9, true), (10, true), (11, true), (12, true), (13, true)] [] (by kernel_rfl) ?_
       refine S.qn rfl (r_loadA ta27 ti27 rfl rfl (fun w hw => (box_cells (i := 0) rfl w hw))) ?_
       refine S.qcn rfl (q_callF (xs := _) rfl ok143 rfl rfl (fun w hw => impl_IsMaze.ok h28 w ((fun _ hw => hr_v25_1.sep hw) w hw) ((fun _ hw => hr_v25_2.sep hw) w hw))) ?_
       refine S.qn rfl (r_not rfl) (S.qn rfl (r_move rfl) ?_)
       iterate 9 refine S.skf rfl g30 ?_
       refine S.qn rfl (r_pick rfl rfl g30) (S.nil (F.nil ?_))
       cases hE_3
       refine Nrm.only [1, 3, 20, 21, 22, 40] rfl ?_
       refine Nrm.pick [1] rfl rfl ?_
       exact hj_2 _ _ ⟨rfl, rfl⟩
      ·replace hE_3 := if_ff g30 hE_3
       obtain ⟨t34, h34, hE_3⟩ := bind_some hE_3
       obtain ⟨_, hc34, hp34⟩ := Rd.elem hr_a0_1 (rdl_some h34).2.2
       obtain ⟨v34_0, rfl, hr_v34_0⟩ := op25 hp34
       have hl_v34_0 := hr_v34_0.len
       refine Tri.drawA mixedT Sep.up [(0, true), (1, true), (2, true), (3, true), (4, true), (5, true), (6, true), (7, true), (8, true), (9, true), (10, true), (11, true), (12, true), (13, true)] [] (by kernel_rfl) ?_
       refine S.qn rfl (r_loadA ta27 ti27 rfl rfl (fun w hw => (box_cells (i := 0) rfl w hw))) ?_
       refine S.qcn rfl (q_callF (xs := _) rfl ok143 rfl rfl (fun w hw => impl_IsMaze.ok h28 w ((fun _ hw => hr_v25_1.sep hw) w hw) ((fun _ hw => hr_v25_2.sep hw) w hw))) ?_
       refine S.qn rfl (r_not rfl) (S.qn rfl (r_move rfl) (S.qg rfl g30 (r_fieldAddr tf85_1 rfl) (S.qg rfl g30 (r_load ta83 rfl (fun w hw => cell_1 (box_cells (i := 1) rfl w hw) rfl)) (S.qg rfl g30 (r_move rfl) (S.qg rfl g30 (r_indexAddrS Try.underlying83 ti25 rfl hl_va0_1 rfl (rdl_some h34).1 (rdl_some h34).2.1) ?_)))))
       refine S.qg rfl g30 (r_load ta25 rfl (fun w hw => cell_0 (hc34.sep hw) rfl)) (S.qg rfl g30 (r_len Try.underlying25 rfl hl_v34_0) (S.qg rfl g30 (r_fieldAddr tf27_0 rfl) (S.qg rfl g30 (r_load ta3 rfl (fun w hw => cell_1 (box_cells (i := 0) rfl w hw) rfl)) (S.qg rfl g30 (r_neq rfl rfl) (S.qn rfl (r_pickf rfl rfl g30) (S.nil (F.nil ?_)))))))
       cases hE_3
       refine Nrm.only [1, 3, 20, 21, 22, 40] rfl ?_
       refine Nrm.pick [1] rfl rfl ?_
       exact hj_2 _ _ ⟨rfl, rfl⟩
    ·replace hE_2 := if_ff g_2 hE_2
     refine Tri.exit ?_
     refine Exi.then ?_
     refine Exi.then ?_
     refine Exi.same ?_
     cases hE_2
     replace h := Lr_inl h
     refine Nrm.seq (Tri.seq (Tri.reg (l := [0]) rfl ?_))
     refine F.qn rfl (r_assign rfl) (F.nil (Nrm.seq (Tri.ret ?_)))
     cases h
     exact Rtn.body (.tmp rfl .nil) (fun w hw => ⟨rfl, hw.ext⟩)
 ·obtain ⟨t8, h8, hE_1⟩ := bind_some hE_1
  rcases Bool.eq_false_or_eq_true (!t8) with g10 | g10
  ·replace hE_1 := if_tt g10 hE_1
   refine Tri.reg (l := List.range 14) rfl ?_
   refine F.qn rfl (r_fieldAddr tf85_0 rfl) (F.qn rfl (r_load ta82 rfl (fun w hw => cell_1 (box_cells (i := 0) rfl w hw) rfl)) (F.qn rfl (r_len Try.underlying82 rfl hl_va0_0) ?_))
   refine F.qcn rfl (q_callF (xs := _) rfl ok149 rfl rfl (fun w hw => impl_within.ok h8 w )) ?_
   refine F.qn rfl (r_not rfl) (F.qn rfl (r_move rfl) ?_)
   iterate 7 refine F.skf rfl g10 ?_
   refine F.qn rfl (r_pick rfl rfl g10) (F.nil ?_)
   cases hE_1
   refine Nrm.only [1, 18] rfl ?_
   refine Nrm.pick [0] rfl rfl ?_
   exact hj_1 _ _ ⟨rfl, rfl⟩
  ·replace hE_1 := if_ff g10 hE_1
   refine Tri.reg (l := List.range 14) rfl ?_
   refine F.qn rfl (r_fieldAddr tf85_0 rfl) (F.qn rfl (r_load ta82 rfl (fun w hw => cell_1 (box_cells (i := 0) rfl w hw) rfl)) (F.qn rfl (r_len Try.underlying82 rfl hl_va0_0) ?_))
   refine F.qcn rfl (q_callF (xs := _) rfl ok149 rfl rfl (fun w hw => impl_within.ok h8 w )) ?_
   refine F.qn rfl (r_not rfl) (F.qn rfl (r_move rfl) (F.qg rfl g10 (r_fieldAddr tf85_1 rfl) (F.qg rfl g10 (r_load ta83 rfl (fun w hw => cell_1 (box_cells (i := 0) rfl w hw) rfl)) ?_)))
   refine F.qg rfl g10 (r_len Try.underlying83 rfl hl_va0_1) (F.qg rfl g10 (r_fieldAddr tf85_0 rfl) (F.qg rfl g10 (r_load ta82 rfl (fun w hw => cell_1 (box_cells (i := 0) rfl w hw) rfl)) (F.qg rfl g10 (r_len Try.underlying82 rfl hl_va0_0) (F.qg rfl g10 (r_neq rfl rfl) (F.qn rfl (r_pickf rfl rfl g10) (F.nil ?_))))))
   cases hE_1
   refine Nrm.only [1, 18] rfl ?_
   refine Nrm.pick [0] rfl rfl ?_
   exact hj_1 _ _ ⟨rfl, rfl⟩


def impl_members.l0 (k : Nat) (a0 : Int) : Nat → (List (Int)) → Int → Option ((List (Int)))
 | 0, _, _ => none
 | n + 1, x3, x4 => if ¬ x4 < 0 then (if (decide ((shr a0 x4) > 0)) = true then if ¬ x4 < 0 then ((if ((band (shr a0 x4) 1) == 1) = true then if (x3 ++ ([x4] : List (Int))).length < 1099511627776 then some (x3 ++ ([x4] : List (Int))) else none else some x3)).bind fun y3 => impl_members.l0 k a0 n y3 (w64 (x4 + 1)) else none else some x3) else none

def impl_members.f (k : Nat) (a0 : Int) : Option ((List Int)) := (impl_members.l0 k a0 k ([] : List (Int)) 0).bind fun x3 => some x3

theorem impl_members.ok {k : Nat}  {a0 : Int} {r0 : List Int} (h : impl_members.f k a0 = some r0) (w : World) :
  Calls Try.prog 98 ([.int .i64 a0] : List Value).toArray w (Post (fun u ns => ∃ (Sr0 : Nat → Prop), SlLen u r0.length ∧ ns = [R.sl Sr0 u r0]) w) := by
 unfold impl_members.f at h
 refine Calls.of_tri (N := 22) Try.func98 rfl rfl rfl (Sep.nil (M := noM)) ?_
 refine Tri.seq (Tri.reg (l := [0]) rfl ?_)
 refine F.qn rfl (r_assign rfl) (F.nil (Nrm.seq (Tri.seq (Tri.reg (l := [0, 1]) rfl ?_))))
 refine F.mn rfl (m_build0 (α := Int) Try.underlying25 ti3) ?_
 rintro v5_1 _ ⟨S5_1, hl_v5_1, rfl⟩
 refine F.qn rfl (r_assign rfl) (F.nil (Nrm.seq (Tri.seq (Tri.seq (Tri.reg (l := [0]) rfl ?_)))))
 refine F.qn rfl (r_assign rfl) (F.nil (Nrm.seq ?_))
 obtain ⟨x3, hE_1, h⟩ := bind_some h
 refine Tri.block ?_
 refine Tri.only [0, 3, 4] rfl ?_
 refine Tri.pick [0] rfl rfl ?_
 refine Tri.rounds (fun n e' C' => ∃ (x3' : List (Int)) (x4' : Int) (w3 : Value) (T3 : Nat → Prop), impl_members.l0 k a0 n x3' x4' = some x3 ∧ SlLen w3 (x3').length ∧ e' = [(0, .int .i64 a0), (3, w3), (4, .int .i64 x4')] ∧ C' = Sep w noM [R.sl T3 w3 (x3' : List (Int))]) k ?_ ?_ ?_
 ·exact ⟨([] : List (Int)), 0, v5_1, S5_1, hE_1, hl_v5_1, rfl, rfl⟩
 ·rintro _ _ ⟨_, _, _, _, hE_1, _⟩
  rw [impl_members.l0.eq_1] at hE_1; cases hE_1
 ·rintro n_1 _ _ ⟨x3, x4, w3, T3, hE_1, hl_w3, rfl, rfl⟩ ih_1
  rw [impl_members.l0.eq_2] at hE_1
  refine Tri.seq (Tri.seq ?_)
  obtain ⟨hs8, hE_1⟩ := ck hE_1
  refine Tri.reg (l := [0, 1, 2, 3]) rfl ?_
  refine F.qn rfl (r_move rfl) (F.qn rfl (r_move rfl) (F.qn rfl (r_shr rfl rfl hs8) (F.qn rfl (r_gtr rfl rfl) (F.nil (Nrm.seq (Tri.cond (b := decide ((shr a0 x4) > 0)) rfl (fun g_1 => ?_) (fun g_1 => ?_)))))))
  ·replace hE_1 := if_tt g_1 hE_1
   refine Tri.skip (Nrm.seq (Tri.seq (Tri.block ?_)))
   refine Tri.seq ?_
   obtain ⟨hs14, hE_1⟩ := ck hE_1
   refine Tri.reg (l := [0, 1, 2, 3, 4]) rfl ?_
   refine F.qn rfl (r_move rfl) (F.qn rfl (r_move rfl) (F.qn rfl (r_shr rfl rfl hs14) (F.qn rfl (r_and rfl rfl) (F.qn rfl (r_eql rfl rfl) (F.nil (Nrm.seq ?_))))))
   obtain ⟨y3, hE_2, hE_1⟩ := bind_some hE_1
   refine Tri.cut (fun e' C' => ∃ (v3_1 : Value) (S3_1 : Nat → Prop), SlLen v3_1 (y3).length ∧ e' = [(0, .int .i64 a0), (3, v3_1), (4, .int .i64 x4)] ∧ C' = Sep w noM [R.sl S3_1 v3_1 (y3 : List (Int))]) ?_ (fun hj_1 => ?_)
   ·rintro _ _ ⟨v3_1, S3_1, hl_v3_1, rfl, rfl⟩
    refine Nrm.block ?_
    refine Nrm.seq (Tri.reg (l := [0, 1, 2]) rfl ?_)
    refine F.qn rfl (r_move rfl) (F.qn rfl (r_add rfl rfl) (F.qn rfl (r_assign rfl) (F.nil (Nrm.round ?_))))
    refine Rnd.only [0, 3, 4] rfl ?_
    refine Rnd.pick [0] rfl rfl ?_
    exact ih_1 _ _ ⟨y3, w64 (x4 + 1), v3_1, S3_1, hE_1, hl_v3_1, rfl, rfl⟩
   ·refine Tri.cond (b := (band (shr a0 x4) 1) == 1) rfl (fun g_2 => ?_) (fun g_2 => ?_)
    ·replace hE_2 := if_tt g_2 hE_2
     obtain ⟨hs20, hE_2⟩ := ck hE_2
     refine Tri.reg (l := [0, 1, 2, 3, 4]) rfl ?_
     refine F.qn rfl (r_move rfl) (F.qn rfl (r_move rfl) ?_)
     refine F.mn rfl (m_buildF (l := ([x4] : List (Int))) Try.underlying25 ti3 rfl rfl rfl rfl rfl) ?_
     rintro v19_1 _ ⟨S19_1, hl_v19_1, rfl⟩
     refine F.efn rfl (d_append (i := 1) Try.underlying25 Try.underlying25 ti3 rfl (by decide) rfl rfl rfl (rd_sl (i := 0) rfl) hs20) ?_
     rintro v20_1 _ ⟨S20_1, rfl, hl_v20_1⟩
     refine F.qn rfl (r_assign rfl) (F.nil ?_)
     cases hE_2
     refine Nrm.only [0, 3, 4] rfl ?_
     refine Nrm.pick [1] rfl rfl ?_
     exact hj_1 _ _ ⟨v20_1, S20_1, hl_v20_1, rfl, rfl⟩
    ·replace hE_2 := if_ff g_2 hE_2
     refine Tri.skip ?_
     cases hE_2
     refine Nrm.only [0, 3, 4] rfl ?_
     refine Nrm.pick [0] rfl rfl ?_
     exact hj_1 _ _ ⟨w3, T3, hl_w3, rfl, rfl⟩
  ·replace hE_1 := if_ff g_1 hE_1
   refine Tri.exit ?_
   refine Exi.then ?_
   refine Exi.then ?_
   refine Exi.same ?_
   cases hE_1
   refine Nrm.seq (Tri.seq (Tri.reg (l := [0, 1]) rfl ?_))
   refine F.qn rfl (r_move rfl) (F.qn rfl (r_assign rfl) (F.nil (Nrm.seq (Tri.ret ?_))))
   cases h
   exact Rtn.body (.tmp rfl .nil) (fun w hw => ⟨_, _, rfl, ⟨T3, hl_w3, rfl⟩, Sep.pick (is := [0]) rfl rfl hw⟩)


def impl_has.f (k : Nat) (a0 : Int) (a1 : Int) : Option (Bool) := some ((bclr a1 a0) == 0)

theorem impl_has.ok {k : Nat}  {a0 : Int} {a1 : Int} {r0 : Bool} (h : impl_has.f k a0 a1 = some r0) (w : World) :
  Calls Try.prog 189 ([.int .i64 a0, .int .i64 a1] : List Value).toArray w (fun e w' => e = .returned (.bool r0) ∧ Ext w w') := by
 unfold impl_has.f at h
 refine Calls.of_tri (N := 9) Try.func189 rfl rfl rfl (Sep.nil (M := noM)) ?_
 refine Tri.seq (Tri.reg (l := [0]) rfl ?_)
 refine F.qn rfl (r_assign rfl) (F.nil (Nrm.seq (Tri.seq (Tri.reg (l := [0, 1, 2, 3, 4]) rfl ?_))))
 refine F.qn rfl (r_move rfl) (F.qn rfl (r_move rfl) (F.qn rfl (r_andNot rfl rfl) (F.qn rfl (r_eql rfl rfl) (F.qn rfl (r_assign rfl) (F.nil (Nrm.seq (Tri.ret ?_)))))))
 cases h
 exact Rtn.body (.tmp rfl .nil) (fun w hw => ⟨rfl, hw.ext⟩)


def impl_steps.l0 (k : Nat) (a0_1 : List (Int × Int × Int)) (a1 : Int) (a2 : Int) : Nat → Int → Int → Option (Int)
 | 0, _, _ => none
 | n + 1, x7, x13 => (if (decide (x13 < (a0_1.length : Int))) = true then ((rdl a0_1 x13).bind fun t15 => (impl_has.f k a2 t15.2.2).bind fun t20 => (if (!t20) = true then some x7 else ((if (t15.1 == a1) = true then if ¬ t15.2.1 < 0 then some (bor x7 (shl 1 t15.2.1)) else none else some x7)).bind fun y7 => ((if (t15.2.1 == a1) = true then if ¬ t15.1 < 0 then some (bor y7 (shl 1 t15.1)) else none else some y7)).bind fun y7r => some y7r)).bind fun y7 => impl_steps.l0 k a0_1 a1 a2 n y7 (w64 (x13 + 1)) else some x7)

def impl_steps.f (k : Nat) (a0_0 : Int) (a0_1 : List (Int × Int × Int)) (a0_2 : List Int) (a1 : Int) (a2 : Int) : Option (Int) := (impl_steps.l0 k a0_1 a1 a2 k 0 0).bind fun x7 => some x7

theorem impl_steps.ok {k : Nat}  {a0_0 : Int} {a0_1 : List (Int × Int × Int)} {a0_2 : List Int} {a1 : Int} {a2 : Int} {r0 : Int} (h : impl_steps.f k a0_0 a0_1 a0_2 a1 a2 = some r0) (w : World) {va0_1 : Value} {va0_2 : Value} (hr_a0_1 : Rd w va0_1 a0_1) (hr_a0_2 : Rd w va0_2 a0_2) :
  Calls Try.prog 197 ([.agg ([.int .i64 a0_0, va0_1, va0_2].toArray), .int .i64 a1, .int .i64 a2] : List Value).toArray w (fun e w' => e = .returned (.int .i64 r0) ∧ Ext w w') := by
 unfold impl_steps.f at h
 have hl_va0_1 := hr_a0_1.len
 have hl_va0_2 := hr_a0_2.len
 refine Calls.of_tri (N := 42) Try.func197 rfl rfl rfl (Sep.nil (M := noM)) ?_
 refine Tri.seq (Tri.reg (l := [0, 1]) rfl ?_)
 refine F.mn rfl (m_boxG rfl rfl) ?_
 rintro _ _ ⟨b3_1, rfl, rfl⟩
 refine F.qn rfl (r_assign rfl) (F.nil (Nrm.seq (Tri.seq (Tri.reg (l := [0]) rfl ?_))))
 refine F.qn rfl (r_assign rfl) (F.nil (Nrm.seq (Tri.seq (Tri.seq (Tri.reg (l := [0, 1, 2, 3]) rfl ?_)))))
 refine F.qn rfl (r_fieldAddr tf27_1 rfl) (F.qn rfl (r_load ta24 rfl (fun w hw => cell_1 (box_cells (i := 0) rfl w hw) rfl)) (F.qn rfl (r_len Try.underlying24 rfl hl_va0_1) (F.qn rfl (r_move rfl) (F.nil (Nrm.seq ?_)))))
 obtain ⟨x7, hE_1, h⟩ := bind_some h
 refine Tri.block ?_
 refine Tri.only [1, 2, 7, 11, 12, 13] rfl ?_
 refine Tri.pick [] rfl rfl ?_
 refine Tri.rounds (fun n e' C' => ∃ (x7' : Int) (x13' : Int), impl_steps.l0 k a0_1 a1 a2 n x7' x13' = some x7 ∧ e' = [(1, .int .i64 a1), (2, .int .i64 a2), (7, .int .i64 x7'), (11, va0_1), (12, .int .i64 (a0_1.length : Int)), (13, .int .i64 x13')] ∧ C' = Sep w noM []) k ?_ ?_ ?_
 ·exact ⟨0, 0, hE_1, rfl, rfl⟩
 ·rintro _ _ ⟨_, _, hE_1, _⟩
  rw [impl_steps.l0.eq_1] at hE_1; cases hE_1
 ·rintro n_1 _ _ ⟨x7, x13, hE_1, rfl, rfl⟩ ih_1
  rw [impl_steps.l0.eq_2] at hE_1
  refine Tri.seq (Tri.reg (l := [0]) rfl ?_)
  refine F.qn rfl (r_lss rfl rfl) (F.nil (Nrm.seq (Tri.seq (Tri.cond (b := decide (x13 < (a0_1.length : Int))) rfl (fun g_1 => ?_) (fun g_1 => ?_)))))
  ·replace hE_1 := if_tt g_1 hE_1
   refine Tri.skip (Nrm.seq (Tri.seq ?_))
   obtain ⟨y7, hE_2, hE_1⟩ := bind_some hE_1
   refine Tri.cut (fun e' C' => e' = [(1, .int .i64 a1), (2, .int .i64 a2), (7, .int .i64 y7), (11, va0_1), (12, .int .i64 (a0_1.length : Int)), (13, .int .i64 x13)] ∧ C' = Sep w noM []) ?_ (fun hj_1 => ?_)
   ·rintro _ _ ⟨rfl, rfl⟩
    refine Nrm.seq (Tri.reg (l := [0, 1]) rfl ?_)
    refine F.qn rfl (r_add rfl rfl) (F.qn rfl (r_move rfl) (F.nil (Nrm.round ?_)))
    refine Rnd.only [1, 2, 7, 11, 12, 13] rfl ?_
    refine Rnd.pick [] rfl rfl ?_
    exact ih_1 _ _ ⟨y7, w64 (x13 + 1), hE_1, rfl, rfl⟩
   ·refine Tri.block ?_
    refine Tri.seq ?_
    obtain ⟨t15, h15, hE_2⟩ := bind_some hE_2
    refine Tri.reg (l := [0, 1, 2, 3]) rfl ?_
    refine F.qn rfl (r_indexAddrS Try.underlying24 ti121 rfl hl_va0_1 rfl (rdl_some h15).1 (rdl_some h15).2.1) (F.qn rfl (r_loadA ta121 ti121 rfl rfl (fun w hw => (Rd.flat ((fun _ hw => hr_a0_1.sep hw) w hw) (rdl_some h15).2.2))) ?_)
    refine F.mn rfl (m_alloc ti121) ?_
    rintro _ _ ⟨b9_1, rfl, rfl⟩
    refine F.ef0 rfl rfl (wanted_none rfl) (d_storeG0 (i := 0) (cs2 := [.int .i64 t15.1, .int .i64 t15.2.1, .int .i64 t15.2.2]) ti121 rfl rfl rfl rfl rfl (Nat.le_of_ble_eq_true rfl) (lf_cons rfl (lf_cons rfl (lf_cons rfl lf_nil)))) ?_
    rintro _ _ ⟨rfl, rfl⟩
    refine F.nil (Nrm.seq (Tri.seq (Tri.seq ?_)))
    obtain ⟨t20, h20, hE_2⟩ := bind_some hE_2
    refine Tri.reg (l := [0, 1, 2, 3, 4]) rfl ?_
    refine F.qn rfl (r_move rfl) (F.qn rfl (r_indexAddrA Try.underlying121 ti3 rfl rfl (by decide) (by decide)) (F.qn rfl (r_load ta3 rfl (fun w hw => cell_1 (box_cells (i := 0) rfl w hw) rfl)) ?_))
    refine F.qcn rfl (q_callF (xs := _) rfl ok189 rfl rfl (fun w hw => impl_has.ok h20 w )) ?_
    refine F.qn rfl (r_not rfl) (F.nil (Nrm.seq (Tri.cond (b := !t20) rfl (fun g_2 => ?_) (fun g_2 => ?_))))
    ·replace hE_2 := if_tt g_2 hE_2
     refine Tri.exit ?_
     refine Exi.then ?_
     refine Exi.same ?_
     cases hE_2
     refine Nrm.only [1, 2, 7, 11, 12, 13] rfl ?_
     refine Nrm.pick [] rfl rfl ?_
     exact hj_1 _ _ ⟨rfl, rfl⟩
    ·replace hE_2 := if_ff g_2 hE_2
     refine Tri.skip (Nrm.seq (Tri.seq (Tri.seq (Tri.reg (l := [0, 1, 2, 3]) rfl ?_))))
     refine F.qn rfl (r_indexAddrA Try.underlying121 ti3 rfl rfl (by decide) (by decide)) (F.qn rfl (r_load ta3 rfl (fun w hw => cell_1 (box_cells (i := 0) rfl w hw) rfl)) (F.qn rfl (r_move rfl) (F.qn rfl (r_eql rfl rfl) (F.nil (Nrm.seq ?_)))))
     obtain ⟨y7, hE_3, hE_2⟩ := bind_some hE_2
     refine Tri.cut (fun e' C' => e' = [(1, .int .i64 a1), (2, .int .i64 a2), (7, .int .i64 y7), (9, .pointer (some ⟨b9_1, 0, none⟩)), (11, va0_1), (12, .int .i64 (a0_1.length : Int)), (13, .int .i64 x13)] ∧ C' = Sep w noM [R.box b9_1 121 [.int .i64 t15.1, .int .i64 t15.2.1, .int .i64 t15.2.2]]) ?_ (fun hj_2 => ?_)
     ·rintro _ _ ⟨rfl, rfl⟩
      refine Nrm.seq (Tri.seq (Tri.reg (l := [0, 1, 2, 3]) rfl ?_))
      refine F.qn rfl (r_indexAddrA Try.underlying121 ti3 rfl rfl (by decide) (by decide)) (F.qn rfl (r_load ta3 rfl (fun w hw => cell_1 (box_cells (i := 0) rfl w hw) rfl)) (F.qn rfl (r_move rfl) (F.qn rfl (r_eql rfl rfl) (F.nil (Nrm.seq ?_)))))
      obtain ⟨y7r, hE_4, hE_2⟩ := bind_some hE_2
      refine Tri.cut (fun e' C' => e' = [(1, .int .i64 a1), (2, .int .i64 a2), (7, .int .i64 y7r), (11, va0_1), (12, .int .i64 (a0_1.length : Int)), (13, .int .i64 x13)] ∧ C' = Sep w noM []) ?_ (fun hj_3 => ?_)
      ·rintro _ _ ⟨rfl, rfl⟩
       refine Nrm.block ?_
       cases hE_2
       refine Nrm.only [1, 2, 7, 11, 12, 13] rfl ?_
       refine Nrm.pick [] rfl rfl ?_
       exact hj_1 _ _ ⟨rfl, rfl⟩
      ·refine Tri.cond (b := t15.2.1 == a1) rfl (fun g_4 => ?_) (fun g_4 => ?_)
       ·replace hE_4 := if_tt g_4 hE_4
        obtain ⟨hs38, hE_4⟩ := ck hE_4
        refine Tri.reg (l := [0, 1, 2, 3, 4, 5]) rfl ?_
        refine F.qn rfl (r_move rfl) (F.qn rfl (r_indexAddrA Try.underlying121 ti3 rfl rfl (by decide) (by decide)) (F.qn rfl (r_load ta3 rfl (fun w hw => cell_1 (box_cells (i := 0) rfl w hw) rfl)) (F.qn rfl (r_shl rfl rfl hs38) (F.qn rfl (r_or rfl rfl) (F.qn rfl (r_assign rfl) (F.nil ?_))))))
        cases hE_4
        refine Nrm.only [1, 2, 7, 11, 12, 13] rfl ?_
        refine Nrm.pick [] rfl rfl ?_
        exact hj_3 _ _ ⟨rfl, rfl⟩
       ·replace hE_4 := if_ff g_4 hE_4
        refine Tri.skip ?_
        cases hE_4
        refine Nrm.only [1, 2, 7, 11, 12, 13] rfl ?_
        refine Nrm.pick [] rfl rfl ?_
        exact hj_3 _ _ ⟨rfl, rfl⟩
     ·refine Tri.cond (b := t15.1 == a1) rfl (fun g_3 => ?_) (fun g_3 => ?_)
      ·replace hE_3 := if_tt g_3 hE_3
       obtain ⟨hs29, hE_3⟩ := ck hE_3
       refine Tri.reg (l := [0, 1, 2, 3, 4, 5]) rfl ?_
       refine F.qn rfl (r_move rfl) (F.qn rfl (r_indexAddrA Try.underlying121 ti3 rfl rfl (by decide) (by decide)) (F.qn rfl (r_load ta3 rfl (fun w hw => cell_1 (box_cells (i := 0) rfl w hw) rfl)) (F.qn rfl (r_shl rfl rfl hs29) (F.qn rfl (r_or rfl rfl) (F.qn rfl (r_assign rfl) (F.nil ?_))))))
       cases hE_3
       refine Nrm.only [1, 2, 7, 9, 11, 12, 13] rfl ?_
       refine Nrm.pick [0] rfl rfl ?_
       exact hj_2 _ _ ⟨rfl, rfl⟩
      ·replace hE_3 := if_ff g_3 hE_3
       refine Tri.skip ?_
       cases hE_3
       refine Nrm.only [1, 2, 7, 9, 11, 12, 13] rfl ?_
       refine Nrm.pick [0] rfl rfl ?_
       exact hj_2 _ _ ⟨rfl, rfl⟩
  ·replace hE_1 := if_ff g_1 hE_1
   refine Tri.exit ?_
   refine Exi.then ?_
   refine Exi.then ?_
   refine Exi.same ?_
   cases hE_1
   refine Nrm.seq (Tri.seq (Tri.reg (l := [0, 1]) rfl ?_))
   refine F.qn rfl (r_move rfl) (F.qn rfl (r_assign rfl) (F.nil (Nrm.seq (Tri.ret ?_))))
   cases h
   exact Rtn.body (.tmp rfl .nil) (fun w hw => ⟨rfl, hw.ext⟩)


def impl_reach.l0 (k : Nat) (a0_0 : Int) (a0_1 : List (Int × Int × Int)) (a0_2 : List Int) (a2 : Int) : Nat → Int → (List (Int)) → Option (Int)
 | 0, _, _ => none
 | n + 1, x7, x8 => (if (decide ((x8.length : Int) > 0)) = true then (rdl x8 0).bind fun t19 => (impl_steps.f k a0_0 a0_1 a0_2 t19 a2).bind fun t22 => (slc x8 1 (x8.length : Int)).bind fun t29 => (impl_members.f k (bclr t22 x7)).bind fun t31 => if (t29 ++ t31).length < 1099511627776 then impl_reach.l0 k a0_0 a0_1 a0_2 a2 n (bor x7 (bclr t22 x7)) (t29 ++ t31) else none else some x7)

def impl_reach.f (k : Nat) (a0_0 : Int) (a0_1 : List (Int × Int × Int)) (a0_2 : List Int) (a1 : Int) (a2 : Int) : Option (Int) := if ¬ a1 < 0 then (impl_reach.l0 k a0_0 a0_1 a0_2 a2 k (shl 1 a1) ([a1] : List (Int))).bind fun x7 => some x7 else none

theorem impl_reach.ok {k : Nat}  {a0_0 : Int} {a0_1 : List (Int × Int × Int)} {a0_2 : List Int} {a1 : Int} {a2 : Int} {r0 : Int} (h : impl_reach.f k a0_0 a0_1 a0_2 a1 a2 = some r0) (w : World) {va0_1 : Value} {va0_2 : Value} (hr_a0_1 : Rd w va0_1 a0_1) (hr_a0_2 : Rd w va0_2 a0_2) :
  Calls Try.prog 160 ([.agg ([.int .i64 a0_0, va0_1, va0_2].toArray), .int .i64 a1, .int .i64 a2] : List Value).toArray w (fun e w' => e = .returned (.int .i64 r0) ∧ Ext w w') := by
 unfold impl_reach.f at h
 have hl_va0_1 := hr_a0_1.len
 have hl_va0_2 := hr_a0_2.len
 refine Calls.of_tri (N := 34) Try.func160 rfl rfl rfl (Sep.nil (M := noM)) ?_
 refine Tri.seq (Tri.reg (l := [0, 1]) rfl ?_)
 refine F.mn rfl (m_boxG rfl rfl) ?_
 rintro _ _ ⟨b3_1, rfl, rfl⟩
 refine F.qn rfl (r_assign rfl) (F.nil (Nrm.seq (Tri.seq ?_)))
 obtain ⟨hs11, h⟩ := ck h
 refine Tri.reg (l := [0, 1, 2, 3, 4, 5]) rfl ?_
 refine F.qn rfl (r_move rfl) (F.qn rfl (r_shl rfl rfl hs11) (F.qn rfl (r_move rfl) ?_))
 refine F.mn rfl (m_buildF (l := ([a1] : List (Int))) Try.underlying25 ti3 rfl rfl rfl rfl rfl) ?_
 rintro v13_1 _ ⟨S13_1, hl_v13_1, rfl⟩
 refine F.qn rfl (r_assign rfl) (F.qn rfl (r_assign rfl) (F.nil (Nrm.seq (Tri.seq ?_))))
 obtain ⟨x7, hE_1, h⟩ := bind_some h
 refine Tri.block ?_
 refine Tri.only [2, 3, 7, 8] rfl ?_
 refine Tri.pick [1, 0] rfl rfl ?_
 refine Tri.rounds (fun n e' C' => ∃ (x7' : Int) (x8' : List (Int)) (w8 : Value) (T8 : Nat → Prop), impl_reach.l0 k a0_0 a0_1 a0_2 a2 n x7' x8' = some x7 ∧ SlLen w8 (x8').length ∧ e' = [(2, .int .i64 a2), (3, .pointer (some ⟨b3_1, 0, none⟩)), (7, .int .i64 x7'), (8, w8)] ∧ C' = Sep w noM [R.box b3_1 27 [.int .i64 a0_0, va0_1, va0_2], R.sl T8 w8 (x8' : List (Int))]) k ?_ ?_ ?_
 ·exact ⟨shl 1 a1, ([a1] : List (Int)), v13_1, S13_1, hE_1, hl_v13_1, rfl, rfl⟩
 ·rintro _ _ ⟨_, _, _, _, hE_1, _⟩
  rw [impl_reach.l0.eq_1] at hE_1; cases hE_1
 ·rintro n_1 _ _ ⟨x7, x8, w8, T8, hE_1, hl_w8, rfl, rfl⟩ ih_1
  rw [impl_reach.l0.eq_2] at hE_1
  refine Tri.seq (Tri.seq (Tri.reg (l := [0, 1, 2]) rfl ?_))
  refine F.qn rfl (r_move rfl) (F.qn rfl (r_len Try.underlying25 rfl hl_w8) (F.qn rfl (r_gtr rfl rfl) (F.nil (Nrm.seq (Tri.cond (b := decide ((x8.length : Int) > 0)) rfl (fun g_1 => ?_) (fun g_1 => ?_))))))
  ·replace hE_1 := if_tt g_1 hE_1
   refine Tri.skip (Nrm.seq (Tri.block ?_))
   refine Tri.seq ?_
   obtain ⟨t19, h19, hE_1⟩ := bind_some hE_1
   obtain ⟨t22, h22, hE_1⟩ := bind_some hE_1
   refine Tri.drawA mixedT Sep.up [(0, true), (1, true), (2, true), (3, true), (4, true), (5, true), (6, true), (7, true), (8, true)] [] (by kernel_rfl) ?_
   refine S.qn rfl (r_loadA ta27 ti27 rfl rfl (fun w hw => (box_cells (i := 0) rfl w hw))) (S.qn rfl (r_move rfl) (S.qn rfl (r_indexAddrS Try.underlying25 ti3 rfl hl_w8 rfl (rdl_some h19).1 (rdl_some h19).2.1) (S.qn rfl (r_load ta3 rfl (fun w hw => cell_0 (Rd.flat ((rd_sl (i := 1) rfl) w hw) (rdl_some h19).2.2) rfl)) (S.qn rfl (r_move rfl) ?_))))
   refine S.qcn rfl (q_callF (xs := _) rfl ok197 rfl rfl (fun w hw => impl_steps.ok h22 w ((fun _ hw => hr_a0_1.sep hw) w hw) ((fun _ hw => hr_a0_2.sep hw) w hw))) ?_
   refine S.qn rfl (r_move rfl) (S.qn rfl (r_andNot rfl rfl) (S.qn rfl (r_assign rfl) (S.nil (F.nil (Nrm.seq (Tri.seq (Tri.reg (l := [0, 1, 2, 3]) rfl ?_)))))))
   refine F.qn rfl (r_move rfl) (F.qn rfl (r_move rfl) (F.qn rfl (r_or rfl rfl) (F.qn rfl (r_assign rfl) (F.nil (Nrm.seq ?_)))))
   obtain ⟨t29, h29, hE_1⟩ := bind_some hE_1
   obtain ⟨t31, h31, hE_1⟩ := bind_some hE_1
   obtain ⟨hs32, hE_1⟩ := ck hE_1
   refine Tri.drawA mixedT Sep.up [(0, true), (1, true), (2, true), (3, false)] [4, 5] (by kernel_rfl) ?_
   refine S.qn rfl (r_move rfl) (S.qn rfl (r_sliceL Try.underlying25 ti3 rfl (rd_sl (i := 1) rfl) rfl h29) (S.qn rfl (r_move rfl) ?_))
   refine S.m rfl rfl rfl (wanted_none rfl) (m_callF (xs := _) rfl ok98 rfl rfl (fun w hw => impl_members.ok h31 w )) ?_
   rintro v31_2 _ ⟨_, ⟨S31_2, hl_v31_2, rfl⟩, rfl⟩
   refine S.nil (F.efn rfl (Does.pre (fun w hw => Sep.resl (i := 2) rfl h29 hw) <| d_append (i := 2) Try.underlying25 Try.underlying25 ti3 rfl (by decide) rfl rfl rfl (rd_sl (i := 0) rfl) hs32) ?_)
   rintro v32_2 _ ⟨S32_2, rfl, hl_v32_2⟩
   refine F.qn rfl (r_assign rfl) (F.nil (Nrm.block ?_))
   refine Nrm.round ?_
   refine Rnd.only [2, 3, 7, 8] rfl ?_
   refine Rnd.pick [1, 2] rfl rfl ?_
   exact ih_1 _ _ ⟨bor x7 (bclr t22 x7), t29 ++ t31, v32_2, S32_2, hE_1, hl_v32_2, rfl, rfl⟩
  ·replace hE_1 := if_ff g_1 hE_1
   refine Tri.exit ?_
   refine Exi.then ?_
   refine Exi.then ?_
   refine Exi.same ?_
   cases hE_1
   refine Nrm.seq (Tri.seq (Tri.reg (l := [0, 1]) rfl ?_))
   refine F.qn rfl (r_move rfl) (F.qn rfl (r_assign rfl) (F.nil (Nrm.seq (Tri.ret ?_))))
   cases h
   exact Rtn.body (.tmp rfl .nil) (fun w hw => ⟨rfl, hw.ext⟩)


def slices_Clone_int_int.f (k : Nat) (a0 : List Int) : Option ((List Int)) := if (([] : List (Int)) ++ a0).length < 1099511627776 then some (([] : List (Int)) ++ a0) else none

theorem slices_Clone_int_int.ok {k : Nat}  {a0 : List Int} {r0 : List Int} (h : slices_Clone_int_int.f k a0 = some r0) (w : World) {va0 : Value} (hr_a0 : Rd w va0 a0) :
  Calls Try.prog 171 ([va0] : List Value).toArray w (Post (fun u ns => ∃ (Sr0 : Nat → Prop), SlLen u r0.length ∧ ns = [R.sl Sr0 u r0]) w) := by
 unfold slices_Clone_int_int.f at h
 have hl_va0 := hr_a0.len
 rcases Rd.cases hr_a0 with ⟨rfl, rfl⟩ | ⟨pa0, ca0, rfl⟩
 ·replace h : some [] = some r0 := by simpa using h
  refine Calls.of_tri (N := 8) Try.func171 rfl rfl rfl (Sep.nil (M := noM)) ?_
  refine Tri.seq (Tri.reg (l := [0]) rfl ?_)
  refine F.qn rfl (r_assign rfl) (F.nil (Nrm.seq (Tri.seq (Tri.seq (Tri.reg (l := [0, 1]) rfl ?_)))))
  refine F.qn rfl (r_move rfl) (F.qn rfl (r_eqlNN Try.underlying25 rfl rfl) (F.nil (Nrm.seq (Tri.condT rfl rfl ?_))))
  refine Tri.seq (Tri.reg (l := [0]) rfl ?_)
  refine F.qn rfl (r_assign rfl) (F.nil (Nrm.seq (Tri.ret ?_)))
  refine Rtn.then ?_
  cases h
  exact Rtn.body (.tmp rfl .nil) (fun w hw => ⟨_, _, rfl, ⟨fun _ => False, len_nil, rfl⟩, Sep.pick (is := [0]) rfl rfl hw.pushNil⟩)
 ·refine Calls.of_tri (N := 8) Try.func171 rfl rfl rfl (Sep.nil (M := noM)) ?_
  refine Tri.seq (Tri.reg (l := [0]) rfl ?_)
  refine F.qn rfl (r_assign rfl) (F.nil (Nrm.seq (Tri.seq (Tri.seq (Tri.reg (l := [0, 1]) rfl ?_)))))
  refine F.qn rfl (r_move rfl) (F.qn rfl (r_eqlN Try.underlying25 rfl rfl ⟨_, _, rfl⟩) (F.nil (Nrm.seq (Tri.condF rfl rfl ?_))))
  refine Tri.skip (Nrm.seq (Tri.seq ?_))
  obtain ⟨hs7, h⟩ := ck h
  refine Tri.reg (l := [0, 1, 2, 3]) rfl ?_
  refine F.mn rfl (m_build0 (α := Int) Try.underlying25 ti3) ?_
  rintro v5_1 _ ⟨S5_1, hl_v5_1, rfl⟩
  refine F.qn rfl (r_move rfl) ?_
  refine F.efn rfl (d_append (i := 0) Try.underlying25 Try.underlying25 ti3 rfl (by decide) rfl rfl rfl (fun _ hw => hr_a0.sep hw) hs7) ?_
  rintro v7_1 _ ⟨S7_1, rfl, hl_v7_1⟩
  refine F.qn rfl (r_assign rfl) (F.nil (Nrm.seq (Tri.ret ?_)))
  cases h
  exact Rtn.body (.tmp rfl .nil) (fun w hw => ⟨_, _, rfl, ⟨S7_1, hl_v7_1, rfl⟩, Sep.pick (is := [0]) rfl rfl hw⟩)


def slices_Equal_int_int.l0 (k : Nat) (a0 : List Int) (a1 : List Int) : Nat → Int → Option ((Unit) ⊕ (Bool))
 | 0, _ => none
 | n + 1, x13 => (if (decide (x13 < (a0.length : Int))) = true then (rdl a0 x13).bind fun t18 => (rdl a1 x13).bind fun t22 => (if (t18 != t22) = true then some (Sum.inr false) else slices_Equal_int_int.l0 k a0 a1 n (w64 (x13 + 1))) else some (Sum.inl ()))

def slices_Equal_int_int.f (k : Nat) (a0 : List Int) (a1 : List Int) : Option (Bool) := (if ((a0.length : Int) != (a1.length : Int)) = true then some false else (slices_Equal_int_int.l0 k a0 a1 k 0).bind fun s => Lr s some fun _ => some true)

theorem slices_Equal_int_int.ok {k : Nat}  {a0 : List Int} {a1 : List Int} {r0 : Bool} (h : slices_Equal_int_int.f k a0 a1 = some r0) (w : World) {va0 : Value} {va1 : Value} (hr_a0 : Rd w va0 a0) (hr_a1 : Rd w va1 a1) :
  Calls Try.prog 173 ([va0, va1] : List Value).toArray w (fun e w' => e = .returned (.bool r0) ∧ Ext w w') := by
 unfold slices_Equal_int_int.f at h
 have hl_va0 := hr_a0.len
 have hl_va1 := hr_a1.len
 refine Calls.of_tri (N := 26) Try.func173 rfl rfl rfl (Sep.nil (M := noM)) ?_
 refine Tri.seq (Tri.reg (l := [0]) rfl ?_)
 refine F.qn rfl (r_assign rfl) (F.nil (Nrm.seq (Tri.seq (Tri.seq (Tri.reg (l := [0, 1, 2, 3, 4]) rfl ?_)))))
 refine F.qn rfl (r_move rfl) (F.qn rfl (r_len Try.underlying25 rfl hl_va0) (F.qn rfl (r_move rfl) (F.qn rfl (r_len Try.underlying25 rfl hl_va1) (F.qn rfl (r_neq rfl rfl) (F.nil (Nrm.seq (Tri.cond (b := (a0.length : Int) != (a1.length : Int)) rfl (fun g_1 => ?_) (fun g_1 => ?_))))))))
 ·replace h := if_tt g_1 h
  refine Tri.seq (Tri.reg (l := [0]) rfl ?_)
  refine F.qn rfl (r_assign rfl) (F.nil (Nrm.seq (Tri.ret ?_)))
  refine Rtn.then ?_
  cases h
  exact Rtn.body (.tmp rfl .nil) (fun w hw => ⟨rfl, hw.ext⟩)
 ·replace h := if_ff g_1 h
  refine Tri.skip (Nrm.seq (Tri.seq (Tri.seq (Tri.reg (l := [0, 1, 2]) rfl ?_))))
  refine F.qn rfl (r_move rfl) (F.qn rfl (r_len Try.underlying25 rfl hl_va0) (F.qn rfl (r_move rfl) (F.nil (Nrm.seq ?_))))
  obtain ⟨s0, hE_1, h⟩ := bind_some h
  refine Tri.block ?_
  refine Tri.only [0, 1, 12, 13] rfl ?_
  refine Tri.pick [] rfl rfl ?_
  refine Tri.rounds (fun n e' C' => ∃ (x13' : Int), slices_Equal_int_int.l0 k a0 a1 n x13' = some s0 ∧ e' = [(0, va0), (1, va1), (12, .int .i64 (a0.length : Int)), (13, .int .i64 x13')] ∧ C' = Sep w noM []) k ?_ ?_ ?_
  ·exact ⟨0, hE_1, rfl, rfl⟩
  ·rintro _ _ ⟨_, hE_1, _⟩
   rw [slices_Equal_int_int.l0.eq_1] at hE_1; cases hE_1
  ·rintro n_1 _ _ ⟨x13, hE_1, rfl, rfl⟩ ih_1
   rw [slices_Equal_int_int.l0.eq_2] at hE_1
   refine Tri.seq (Tri.reg (l := [0]) rfl ?_)
   refine F.qn rfl (r_lss rfl rfl) (F.nil (Nrm.seq (Tri.seq (Tri.cond (b := decide (x13 < (a0.length : Int))) rfl (fun g_2 => ?_) (fun g_2 => ?_)))))
   ·replace hE_1 := if_tt g_2 hE_1
    refine Tri.skip (Nrm.seq (Tri.seq (Tri.block ?_)))
    refine Tri.seq (Tri.reg (l := [0, 1]) rfl ?_)
    refine F.qn rfl (r_move rfl) (F.qn rfl (r_assign rfl) (F.nil (Nrm.seq (Tri.seq ?_))))
    obtain ⟨t18, h18, hE_1⟩ := bind_some hE_1
    obtain ⟨t22, h22, hE_1⟩ := bind_some hE_1
    refine Tri.drawA mixedT Sep.up [(0, true), (1, true), (2, true), (3, true), (4, true), (5, true), (6, true), (7, true), (8, true)] [] (by kernel_rfl) ?_
    refine S.qn rfl (r_move rfl) (S.qn rfl (r_move rfl) (S.qn rfl (r_indexAddrS Try.underlying25 ti3 rfl hl_va0 rfl (rdl_some h18).1 (rdl_some h18).2.1) ?_))
    refine S.qn rfl (r_load ta3 rfl (fun w hw => cell_0 (Rd.flat ((fun _ hw => hr_a0.sep hw) w hw) (rdl_some h18).2.2) rfl)) (S.qn rfl (r_move rfl) (S.qn rfl (r_move rfl) (S.qn rfl (r_indexAddrS Try.underlying25 ti3 rfl hl_va1 rfl (rdl_some h22).1 (rdl_some h22).2.1) (S.qn rfl (r_load ta3 rfl (fun w hw => cell_0 (Rd.flat ((fun _ hw => hr_a1.sep hw) w hw) (rdl_some h22).2.2) rfl)) (S.qn rfl (r_neq rfl rfl) (S.nil (F.nil (Nrm.seq (Tri.cond (b := t18 != t22) rfl (fun g_3 => ?_) (fun g_3 => ?_))))))))))
    ·replace hE_1 := if_tt g_3 hE_1
     refine Tri.seq (Tri.reg (l := [0]) rfl ?_)
     refine F.qn rfl (r_assign rfl) (F.nil (Nrm.seq (Tri.ret ?_)))
     refine Rtn.block ?_
     refine Rtn.then ?_
     refine Rtn.then ?_
     refine Rtn.block ?_
     refine Rtn.then ?_
     cases hE_1
     replace h := Lr_inr h
     cases h
     exact Rtn.body (.tmp rfl .nil) (fun w hw => ⟨rfl, hw.ext⟩)
    ·replace hE_1 := if_ff g_3 hE_1
     refine Tri.skip (Nrm.block ?_)
     refine Nrm.seq (Tri.reg (l := [0, 1]) rfl ?_)
     refine F.qn rfl (r_add rfl rfl) (F.qn rfl (r_move rfl) (F.nil (Nrm.round ?_)))
     refine Rnd.only [0, 1, 12, 13] rfl ?_
     refine Rnd.pick [] rfl rfl ?_
     exact ih_1 _ _ ⟨w64 (x13 + 1), hE_1, rfl, rfl⟩
   ·replace hE_1 := if_ff g_2 hE_1
    refine Tri.exit ?_
    refine Exi.then ?_
    refine Exi.then ?_
    refine Exi.same ?_
    cases hE_1
    replace h := Lr_inl h
    refine Nrm.seq (Tri.seq (Tri.reg (l := [0]) rfl ?_))
    refine F.qn rfl (r_assign rfl) (F.nil (Nrm.seq (Tri.ret ?_)))
    cases h
    exact Rtn.body (.tmp rfl .nil) (fun w hw => ⟨rfl, hw.ext⟩)


def bits_Mul64.f (k : Nat) (a0 : Int) (a1 : Int) : Option (Int × Int) := some (wU ((wU ((wU ((shr a0 32) * (shr a1 32))) + (shr (wU ((wU ((shr a0 32) * (uand a1 4294967295))) + (shr (wU ((uand a0 4294967295) * (uand a1 4294967295))) 32))) 32))) + (shr (wU ((uand (wU ((wU ((shr a0 32) * (uand a1 4294967295))) + (shr (wU ((uand a0 4294967295) * (uand a1 4294967295))) 32))) 4294967295) + (wU ((uand a0 4294967295) * (shr a1 32))))) 32)), wU (a0 * a1))

theorem bits_Mul64.ok {k : Nat}  {a0 : Int} {a1 : Int} {r0 : Int} {r1 : Int} (h : bits_Mul64.f k a0 a1 = some (r0, r1)) (w : World) :
  Calls Try.prog 231 ([.int .u64 a0, .int .u64 a1] : List Value).toArray w (fun e w' => e = .returned (.tuple #[.int .u64 r0, .int .u64 r1]) ∧ Ext w w') := by
 unfold bits_Mul64.f at h
 refine Calls.of_tri (N := 51) Try.func231 rfl rfl rfl (Sep.nil (M := noM)) ?_
 refine Tri.seq (Tri.reg (l := [0, 1]) rfl ?_)
 refine F.qn rfl (r_assign rfl) (F.qn rfl (r_assign rfl) (F.nil (Nrm.seq (Tri.seq (Tri.reg (l := [0, 1, 2]) rfl ?_)))))
 refine F.qn rfl (r_move rfl) (F.qn rfl (r_andU rfl rfl) (F.qn rfl (r_assign rfl) (F.nil (Nrm.seq (Tri.seq (Tri.reg (l := [0, 1, 2]) rfl ?_))))))
 refine F.qn rfl (r_move rfl) (F.qn rfl (r_shrU rfl rfl (by decide)) (F.qn rfl (r_assign rfl) (F.nil (Nrm.seq (Tri.seq (Tri.reg (l := [0, 1, 2]) rfl ?_))))))
 refine F.qn rfl (r_move rfl) (F.qn rfl (r_andU rfl rfl) (F.qn rfl (r_assign rfl) (F.nil (Nrm.seq (Tri.seq (Tri.reg (l := [0, 1, 2]) rfl ?_))))))
 refine F.qn rfl (r_move rfl) (F.qn rfl (r_shrU rfl rfl (by decide)) (F.qn rfl (r_assign rfl) (F.nil (Nrm.seq (Tri.seq (Tri.reg (l := [0, 1, 2, 3]) rfl ?_))))))
 refine F.qn rfl (r_move rfl) (F.qn rfl (r_move rfl) (F.qn rfl (r_mulU rfl rfl) (F.qn rfl (r_assign rfl) (F.nil (Nrm.seq (Tri.seq (Tri.reg (l := [0, 1, 2, 3, 4, 5, 6]) rfl ?_)))))))
 refine F.qn rfl (r_move rfl) ?_
 refine F.qn rfl (r_move rfl) (F.qn rfl (r_mulU rfl rfl) (F.qn rfl (r_move rfl) (F.qn rfl (r_shrU rfl rfl (by decide)) (F.qn rfl (r_addU rfl rfl) (F.qn rfl (r_assign rfl) (F.nil (Nrm.seq (Tri.seq (Tri.reg (l := [0, 1, 2]) rfl ?_)))))))))
 refine F.qn rfl (r_move rfl) (F.qn rfl (r_andU rfl rfl) (F.qn rfl (r_assign rfl) (F.nil (Nrm.seq (Tri.seq (Tri.reg (l := [0, 1, 2]) rfl ?_))))))
 refine F.qn rfl (r_move rfl) (F.qn rfl (r_shrU rfl rfl (by decide)) (F.qn rfl (r_assign rfl) (F.nil (Nrm.seq (Tri.seq (Tri.reg (l := [0, 1, 2, 3, 4, 5]) rfl ?_))))))
 iterate 3 refine F.qn rfl (r_move rfl) ?_
 refine F.qn rfl (r_mulU rfl rfl) (F.qn rfl (r_addU rfl rfl) (F.qn rfl (r_assign rfl) (F.nil (Nrm.seq (Tri.seq (Tri.reg (l := [0, 1, 2, 3, 4, 5, 6, 7, 8]) rfl ?_))))))
 refine F.qn rfl (r_move rfl) (F.qn rfl (r_move rfl) (F.qn rfl (r_mulU rfl rfl) ?_))
 refine F.qn rfl (r_move rfl) (F.qn rfl (r_addU rfl rfl) (F.qn rfl (r_move rfl) (F.qn rfl (r_shrU rfl rfl (by decide)) (F.qn rfl (r_addU rfl rfl) (F.qn rfl (r_assign rfl) (F.nil (Nrm.seq (Tri.seq (Tri.reg (l := [0, 1, 2, 3]) rfl ?_)))))))))
 refine F.qn rfl (r_move rfl) (F.qn rfl (r_move rfl) (F.qn rfl (r_mulU rfl rfl) (F.qn rfl (r_assign rfl) (F.nil (Nrm.seq (Tri.ret ?_))))))
 cases h
 exact Rtn.body (.tmp rfl (.tmp rfl .nil)) (fun w hw => ⟨rfl, hw.ext⟩)


def bits_Mul.f (k : Nat) (a0 : Int) (a1 : Int) : Option (Int × Int) := (bits_Mul64.f k a0 a1).bind fun (t25_1, t25_2) => some (t25_1, t25_2)

theorem bits_Mul.ok {k : Nat}  {a0 : Int} {a1 : Int} {r0 : Int} {r1 : Int} (h : bits_Mul.f k a0 a1 = some (r0, r1)) (w : World) :
  Calls Try.prog 217 ([.int .u64 a0, .int .u64 a1] : List Value).toArray w (fun e w' => e = .returned (.tuple #[.int .u64 r0, .int .u64 r1]) ∧ Ext w w') := by
 unfold bits_Mul.f at h
 refine Calls.of_tri (N := 30) Try.func217 rfl rfl rfl (Sep.nil (M := noM)) ?_
 refine Tri.seq (Tri.reg (l := [0, 1]) rfl ?_)
 refine F.qn rfl (r_assign rfl) (F.qn rfl (r_assign rfl) (F.nil (Nrm.seq (Tri.seq (Tri.condF rfl rfl ?_)))))
 refine Tri.skip (Nrm.seq (Tri.seq ?_))
 obtain ⟨⟨t25_1, t25_2⟩, h25, h⟩ := bind_some h
 refine Tri.reg (l := [0, 1, 2, 3, 4, 5, 6, 7]) rfl ?_
 refine F.qn rfl (r_move rfl) (F.qn rfl (r_move rfl) ?_)
 refine F.qcn rfl (q_callF (xs := _) rfl ok231 rfl rfl (fun w hw => bits_Mul64.ok h25 w )) ?_
 refine F.qn rfl (r_move rfl) (F.qn rfl (r_extract rfl rfl) (F.qn rfl (r_extract rfl rfl) (F.qn rfl (r_assign rfl) (F.qn rfl (r_assign rfl) (F.nil (Nrm.seq (Tri.seq (Tri.reg (l := [0, 1, 2, 3]) rfl ?_))))))))
 refine F.qn rfl (r_move rfl) (F.qn rfl (r_move rfl) (F.qn rfl (r_assign rfl) (F.qn rfl (r_assign rfl) (F.nil (Nrm.seq (Tri.ret ?_))))))
 cases h
 exact Rtn.body (.tmp rfl (.tmp rfl .nil)) (fun w hw => ⟨rfl, hw.ext⟩)


def slices_Repeat_int_int.l0 (k : Nat) : Nat → (List (Int)) → Int → Option ((List (Int)))
 | 0, _, _ => none
 | n + 1, x7, x8 => (if (decide (x8 < (x7.length : Int))) = true then (slc x7 x8 (x7.length : Int)).bind fun t41 => (slc x7 0 x8).bind fun t44 => slices_Repeat_int_int.l0 k n (cpl x7 t44 (x8 : Int).toNat ((x7.length : Int) : Int).toNat) (w64 (x8 + ((min t44.length (((x7.length : Int) : Int).toNat - (x8 : Int).toNat) : Nat) : Int))) else some x7)

def slices_Repeat_int_int.f (k : Nat) (a0 : List Int) (a1 : Int) : Option ((List Int)) := (if (decide (a1 < 0)) = true then none else (bits_Mul.f k (IntKind.u64.wrap (a0.length : Int)) (IntKind.u64.wrap a1)).bind fun (t18_1, t18_2) => ((if (decide (t18_1 > 0)) = true then some true else some (decide (t18_2 > 9223372036854775807)))).bind fun y26 => (if y26 = true then none else if 0 ≤ IntKind.i64.wrap t18_2 ∧ IntKind.i64.wrap t18_2 < 1099511627776 then (slices_Repeat_int_int.l0 k k (cpl (List.replicate (IntKind.i64.wrap t18_2).toNat (0 : Int)) a0 0 (List.replicate (IntKind.i64.wrap t18_2).toNat (0 : Int)).length) ((min a0.length ((List.replicate (IntKind.i64.wrap t18_2).toNat (0 : Int)).length - 0) : Nat) : Int)).bind fun x7 => some x7 else none))

theorem slices_Repeat_int_int.ok {k : Nat}  {a0 : List Int} {a1 : Int} {r0 : List Int} (h : slices_Repeat_int_int.f k a0 a1 = some r0) (w : World) {va0 : Value} (hr_a0 : Rd w va0 a0) :
  Calls Try.prog 198 ([va0, .int .i64 a1] : List Value).toArray w (Post (fun u ns => ∃ (Sr0 : Nat → Prop), SlLen u r0.length ∧ ns = [R.sl Sr0 u r0]) w) := by
 unfold slices_Repeat_int_int.f at h
 have hl_va0 := hr_a0.len
 refine Calls.of_tri (N := 48) Try.func198 rfl rfl rfl (Sep.nil (M := noM)) ?_
 refine Tri.seq (Tri.reg (l := [0]) rfl ?_)
 refine F.qn rfl (r_assign rfl) (F.nil (Nrm.seq (Tri.seq (Tri.seq (Tri.reg (l := [0, 1]) rfl ?_)))))
 refine F.qn rfl (r_move rfl) (F.qn rfl (r_lss rfl rfl) (F.nil (Nrm.seq (Tri.cond (b := decide (a1 < 0)) rfl (fun g_1 => ?_) (fun g_1 => ?_)))))
 ·replace h := if_tt g_1 h
  cases h
 ·replace h := if_ff g_1 h
  refine Tri.skip (Nrm.seq (Tri.seq ?_))
  obtain ⟨⟨t18_1, t18_2⟩, h18, h⟩ := bind_some h
  refine Tri.reg (l := [0, 1, 2, 3, 4, 5, 6, 7, 8, 9, 10]) rfl ?_
  refine F.qn rfl (r_move rfl) (F.qn rfl (r_len Try.underlying25 rfl hl_va0) (F.qn rfl (r_conv Try.underlying3 Try.underlying172 rfl) (F.qn rfl (r_move rfl) (F.qn rfl (r_conv Try.underlying3 Try.underlying172 rfl) ?_))))
  refine F.qcn rfl (q_callF (xs := _) rfl ok217 rfl rfl (fun w hw => bits_Mul.ok h18 w )) ?_
  refine F.qn rfl (r_move rfl) (F.qn rfl (r_extract rfl rfl) (F.qn rfl (r_extract rfl rfl) (F.qn rfl (r_assign rfl) (F.qn rfl (r_assign rfl) (F.nil (Nrm.seq (Tri.seq (Tri.seq ?_))))))))
  obtain ⟨y26, hE_1, h⟩ := bind_some h
  refine Tri.cut (fun e' C' => e' = [(0, va0), (6, .int .u64 t18_2), (26, .bool y26)] ∧ C' = Sep w noM []) ?_ (fun hj_1 => ?_)
  ·rintro _ _ ⟨rfl, rfl⟩
   refine Nrm.seq (Tri.cond (b := y26) rfl (fun g_2 => ?_) (fun g_2 => ?_))
   ·replace h := if_tt g_2 h
    cases h
   ·replace h := if_ff g_2 h
    refine Tri.skip (Nrm.seq (Tri.seq ?_))
    obtain ⟨hm30, h⟩ := ck h
    refine Tri.reg (l := [0, 1, 2, 3]) rfl ?_
    refine F.qn rfl (r_move rfl) (F.qn rfl (r_conv Try.underlying172 Try.underlying3 rfl) ?_)
    refine F.mn rfl (m_make (x0 := (0 : Int)) Try.underlying25 ti3 rfl rfl rfl hm30.1 hm30.2 (by decide)) ?_
    rintro v30_1 _ ⟨S30_1, hl_v30_1, rfl⟩
    refine F.qn rfl (r_assign rfl) (F.nil (Nrm.seq (Tri.seq (Tri.reg (l := [0, 1, 2, 3]) rfl ?_))))
    refine F.qn rfl (r_move rfl) (F.qn rfl (r_move rfl) ?_)
    refine F.efn rfl (d_copy0 (i := 0) (m := a0) Try.underlying25 ti3 rfl rfl rfl (fun _ hw => hr_a0.sep hw)) ?_
    rintro _ _ ⟨rfl, rfl⟩
    refine F.qn rfl (r_assign rfl) (F.nil (Nrm.seq (Tri.seq ?_)))
    obtain ⟨x7, hE_2, h⟩ := bind_some h
    refine Tri.block ?_
    refine Tri.only [7, 8] rfl ?_
    refine Tri.pick [0] rfl rfl ?_
    refine Tri.rounds (fun n e' C' => ∃ (x7' : List (Int)) (x8' : Int), slices_Repeat_int_int.l0 k n x7' x8' = some x7 ∧ SlLen v30_1 (x7').length ∧ e' = [(7, v30_1), (8, .int .i64 x8')] ∧ C' = Sep w noM [R.sl S30_1 v30_1 (x7' : List (Int))]) k ?_ ?_ ?_
    ·exact ⟨cpl (List.replicate (IntKind.i64.wrap t18_2).toNat (0 : Int)) a0 0 (List.replicate (IntKind.i64.wrap t18_2).toNat (0 : Int)).length, ((min a0.length ((List.replicate (IntKind.i64.wrap t18_2).toNat (0 : Int)).length - 0) : Nat) : Int), hE_2, (cpl_len hl_v30_1 (Nat.zero_le _) (Nat.le_refl _)), rfl, rfl⟩
    ·rintro _ _ ⟨_, _, hE_2, _⟩
     rw [slices_Repeat_int_int.l0.eq_1] at hE_2; cases hE_2
    ·rintro n_1 _ _ ⟨x7, x8, hE_2, hl_x7, rfl, rfl⟩ ih_1
     rw [slices_Repeat_int_int.l0.eq_2] at hE_2
     refine Tri.seq (Tri.seq (Tri.reg (l := [0, 1, 2, 3]) rfl ?_))
     refine F.qn rfl (r_move rfl) (F.qn rfl (r_move rfl) (F.qn rfl (r_len Try.underlying25 rfl hl_x7) (F.qn rfl (r_lss rfl rfl) (F.nil (Nrm.seq (Tri.cond (b := decide (x8 < (x7.length : Int))) rfl (fun g_3 => ?_) (fun g_3 => ?_)))))))
     ·replace hE_2 := if_tt g_3 hE_2
      refine Tri.skip (Nrm.seq (Tri.block ?_))
      obtain ⟨t41, h41, hE_2⟩ := bind_some hE_2
      obtain ⟨t44, h44, hE_2⟩ := bind_some hE_2
      refine Tri.fact (fun w hw => Rd.shape ((rd_sl (i := 0) rfl) w hw)) (fun hz41_L => ?_)
      refine Tri.drawZ mixedT Sep.up [(0, true), (1, true), (2, true), (3, true), (4, true), (5, true), (6, true), (7, false)] [8, 9] (by kernel_rfl) ?_
      iterate 3 refine Z.q rfl rfl rfl (wanted_none rfl) (r_move rfl) ?_
      refine Z.q rfl rfl rfl (wanted_none rfl) (r_sliceLZ Try.underlying25 ti3 rfl hz41_L rfl h41) ?_
      refine Z.q rfl rfl rfl (wanted_none rfl) (r_move rfl) ?_
      refine Z.q rfl rfl rfl (wanted_none rfl) (r_move rfl) ?_
      refine Z.q rfl rfl rfl (wanted_none rfl) (r_sliceHZ Try.underlying25 ti3 rfl hz41_L rfl h44) ?_
      refine Z.ef rfl rfl rfl (wanted_none rfl) (d_copy (i := 0) (m := t44) Try.underlying25 ti3 rfl rfl rfl h41 (fun w hw => rd_slc ((rd_sl (i := 0) rfl) w hw) h44)) (by rintro _ _ ⟨rfl, rfl⟩; exact Sep.up) ?_
      rintro _ _ ⟨rfl, rfl⟩
      refine Z.nil ?_
      refine F.qn rfl (r_add rfl rfl) (F.qn rfl (r_assign rfl) (F.nil (Nrm.block ?_)))
      refine Nrm.round ?_
      refine Rnd.only [7, 8] rfl ?_
      refine Rnd.pick [0] rfl rfl ?_
      exact ih_1 _ _ ⟨cpl x7 t44 (x8 : Int).toNat ((x7.length : Int) : Int).toNat, w64 (x8 + ((min t44.length (((x7.length : Int) : Int).toNat - (x8 : Int).toNat) : Nat) : Int)), hE_2, (cpl_len hl_x7 (slc_b h41).1 (slc_b h41).2), rfl, rfl⟩
     ·replace hE_2 := if_ff g_3 hE_2
      refine Tri.exit ?_
      refine Exi.then ?_
      refine Exi.then ?_
      refine Exi.same ?_
      cases hE_2
      refine Nrm.seq (Tri.seq (Tri.reg (l := [0, 1]) rfl ?_))
      refine F.qn rfl (r_move rfl) (F.qn rfl (r_assign rfl) (F.nil (Nrm.seq (Tri.ret ?_))))
      cases h
      exact Rtn.body (.tmp rfl .nil) (fun w hw => ⟨_, _, rfl, ⟨S30_1, hl_x7, rfl⟩, Sep.pick (is := [0]) rfl rfl hw⟩)
  ·rcases Bool.eq_false_or_eq_true (decide (t18_1 > 0)) with g23 | g23
   ·replace hE_1 := if_tt g23 hE_1
    refine Tri.reg (l := [0, 1, 2, 3, 4, 5]) rfl ?_
    refine F.qn rfl (r_move rfl) (F.qn rfl (r_gtr rfl rfl) (F.qn rfl (r_move rfl) (F.skf rfl g23 (F.skf rfl g23 (F.qn rfl (r_pick rfl rfl g23) (F.nil ?_))))))
    cases hE_1
    refine Nrm.only [0, 6, 26] rfl ?_
    refine Nrm.pick [] rfl rfl ?_
    exact hj_1 _ _ ⟨rfl, rfl⟩
   ·replace hE_1 := if_ff g23 hE_1
    refine Tri.reg (l := [0, 1, 2, 3, 4, 5]) rfl ?_
    refine F.qn rfl (r_move rfl) (F.qn rfl (r_gtr rfl rfl) (F.qn rfl (r_move rfl) (F.qg rfl g23 (r_move rfl) (F.qg rfl g23 (r_gtr rfl rfl) (F.qn rfl (r_pickf rfl rfl g23) (F.nil ?_))))))
    cases hE_1
    refine Nrm.only [0, 6, 26] rfl ?_
    refine Nrm.pick [] rfl rfl ?_
    exact hj_1 _ _ ⟨rfl, rfl⟩


def impl_allNodes.f (k : Nat) (a0_0 : Int) (a0_1 : List (Int × Int × Int)) (a0_2 : List Int) : Option (Int) := if ¬ a0_0 < 0 then some (w64 ((shl 1 a0_0) - 1)) else none

theorem impl_allNodes.ok {k : Nat}  {a0_0 : Int} {a0_1 : List (Int × Int × Int)} {a0_2 : List Int} {r0 : Int} (h : impl_allNodes.f k a0_0 a0_1 a0_2 = some r0) (w : World) {va0_1 : Value} {va0_2 : Value} (hr_a0_1 : Rd w va0_1 a0_1) (hr_a0_2 : Rd w va0_2 a0_2) :
  Calls Try.prog 199 ([.agg ([.int .i64 a0_0, va0_1, va0_2].toArray)] : List Value).toArray w (fun e w' => e = .returned (.int .i64 r0) ∧ Ext w w') := by
 unfold impl_allNodes.f at h
 have hl_va0_1 := hr_a0_1.len
 have hl_va0_2 := hr_a0_2.len
 refine Calls.of_tri (N := 7) Try.func199 rfl rfl rfl (Sep.nil (M := noM)) ?_
 refine Tri.seq (Tri.reg (l := [0, 1]) rfl ?_)
 refine F.mn rfl (m_boxG rfl rfl) ?_
 rintro _ _ ⟨b1_1, rfl, rfl⟩
 refine F.qn rfl (r_assign rfl) (F.nil (Nrm.seq (Tri.seq ?_)))
 obtain ⟨hs5, h⟩ := ck h
 refine Tri.reg (l := [0, 1, 2, 3, 4]) rfl ?_
 refine F.qn rfl (r_fieldAddr tf27_0 rfl) (F.qn rfl (r_load ta3 rfl (fun w hw => cell_1 (box_cells (i := 0) rfl w hw) rfl)) (F.qn rfl (r_shl rfl rfl hs5) (F.qn rfl (r_sub rfl rfl) (F.qn rfl (r_assign rfl) (F.nil (Nrm.seq (Tri.ret ?_)))))))
 cases h
 exact Rtn.body (.tmp rfl .nil) (fun w hw => ⟨rfl, hw.ext⟩)


def impl_play.l4 (k : Nat) (a0_1 : List (List Int)) (x47 : Int) (t50 : Int × List (Int × Int × Int) × List Int) (t96 : List Int) : Nat → (List (Int)) → Int → Option ((List (Int)))
 | 0, _, _ => none
 | n + 1, x10r, x98 => (if (decide (x98 < (t96.length : Int))) = true then (rdl t96 x98).bind fun t100 => (rdl a0_1 x47).bind fun t106 => (rdl t106 t100).bind fun t109 => (rdl x10r t109).bind fun t111 => (rdl t50.2.2 t100).bind fun t116 => (rdl x10r t109).bind fun t119 => impl_play.l4 k a0_1 x47 t50 t96 n (x10r.set t109.toNat (bor t111 t116)) (w64 (x98 + 1)) else some x10r)

def impl_play.l3 (k : Nat) (x9 : Int) (x47 : Int) (t59 : List Int) : Nat → Int → (List (List Int)) → Option ((List (List Int)))
 | 0, _, _ => none
 | n + 1, x61, xq5_2_1rrr => (if (decide (x61 < (t59.length : Int))) = true then (rdl t59 x61).bind fun t63 => (rdl (xq5_2_1rrr : List (List Int)) x47).bind fun t68 => (rdl t68 t63).bind fun t71 => ((if (decide (t71 < 0)) = true then (rdl ((xq5_2_1rrr : List (List Int)).set (x47 : Int).toNat t68 : List (List Int)) x47).bind fun t77 => (rdl t77 t63).bind fun t81 => some (((xq5_2_1rrr : List (List Int)).set (x47 : Int).toNat t68 : List (List Int)).set (x47 : Int).toNat (t77.set t63.toNat x9)) else some ((xq5_2_1rrr : List (List Int)).set (x47 : Int).toNat t68))).bind fun yb5_2_1 => impl_play.l3 k x9 x47 t59 n (w64 (x61 + 1)) yb5_2_1 else some xq5_2_1rrr)

def impl_play.l2 (k : Nat) (a0_0 : List (Int × List (Int × Int × Int) × List Int)) (a0_1 : List (List Int)) (a1 : Bool) (x6 : List (Int)) (x9 : Int) : Nat → (List (Int)) → Int → (List (List Int)) → Option ((List (List Int)) × (List (Int)))
 | 0, _, _, _ => none
 | n + 1, x10, x47, xq5_2_1rr => (if (decide (x47 < (a0_0.length : Int))) = true then (rdl a0_0 x47).bind fun t50 => (rdl x6 x47).bind fun t55 => (impl_reach.f k t50.1 t50.2.1 t50.2.2 0 t55).bind fun t57 => (impl_members.f k t57).bind fun t59 => (impl_play.l3 k x9 x47 t59 k 0 xq5_2_1rr).bind fun xq5_2_1rrr => ((if a1 = true then if ¬ (w64 (t50.1 - 1)) < 0 then some ((band (shr t57 (w64 (t50.1 - 1))) 1) == 1) else none else some false)).bind fun y92 => ((if y92 = true then (impl_allNodes.f k t50.1 t50.2.1 t50.2.2).bind fun t94 => some t94 else some t57)).bind fun y13 => (impl_members.f k y13).bind fun t96 => (impl_play.l4 k a0_1 x47 t50 t96 k x10 0).bind fun x10r => impl_play.l2 k a0_0 a0_1 a1 x6 x9 n x10r (w64 (x47 + 1)) xq5_2_1rrr else some (xq5_2_1rr, x10))

def impl_play.l1 (k : Nat) (a0_0 : List (Int × List (Int × Int × Int) × List Int)) (a0_1 : List (List Int)) (a1 : Bool) : Nat → (List (Int)) → Int → (List (List Int)) → (List (List Int)) → Option ((Unit) ⊕ ((List (List Int)) × (List (List Int))))
 | 0, _, _, _, _ => none
 | n + 1, x6, x9, xq5_2_0, xq5_2_1r => (slices_Clone_int_int.f k x6).bind fun t43 => (impl_play.l2 k a0_0 a0_1 a1 x6 x9 k t43 0 xq5_2_1r).bind fun (xq5_2_1rr, x10) => (slices_Clone_int_int.f k x6).bind fun t125 => if ((xq5_2_0 : List (List Int)) ++ ([t125] : List (List Int))).length < 1099511627776 then (slices_Equal_int_int.f k x10 x6).bind fun t131 => (if t131 = true then some (Sum.inr ((xq5_2_0 : List (List Int)) ++ ([t125] : List (List Int)), xq5_2_1rr)) else impl_play.l1 k a0_0 a0_1 a1 n x10 (w64 (x9 + 1)) ((xq5_2_0 : List (List Int)) ++ ([t125] : List (List Int))) xq5_2_1rr) else none

def impl_play.l0 (k : Nat) (a0_0 : List (Int × List (Int × Int × Int) × List Int)) : Nat → Int → (List (List Int)) → Option ((List (List Int)))
 | 0, _, _ => none
 | n + 1, x26, xq5_2_1 => (if (decide (x26 < (a0_0.length : Int))) = true then (rdl a0_0 x26).bind fun t28 => (slices_Repeat_int_int.f k ([(-1)] : List (Int)) t28.1).bind fun t35 => if ((xq5_2_1 : List (List Int)) ++ ([t35] : List (List Int))).length < 1099511627776 then impl_play.l0 k a0_0 n (w64 (x26 + 1)) ((xq5_2_1 : List (List Int)) ++ ([t35] : List (List Int))) else none else some xq5_2_1)

def impl_play.f (k : Nat) (a0_0 : List (Int × List (Int × Int × Int) × List Int)) (a0_1 : List (List Int)) (a1 : Bool) : Option ((List (List Int)) × (List (List Int))) := (if 0 ≤ (a0_0.length : Int) ∧ (a0_0.length : Int) < 1099511627776 then some (List.replicate ((a0_0.length : Int)).toNat (0 : Int)) else none).bind fun y6 => (impl_play.l0 k a0_0 k 0 ([] : List (List Int))).bind fun xq5_2_1 => (impl_play.l1 k a0_0 a0_1 a1 k y6 0 ([] : List (List Int)) xq5_2_1).bind fun s => Lr s some fun _ => none

theorem impl_play.ok {k : Nat}  {a0_0 : List (Int × List (Int × Int × Int) × List Int)} {a0_1 : List (List Int)} {a1 : Bool} {r0 : List (List Int)} {r1 : List (List Int)} (h : impl_play.f k a0_0 a0_1 a1 = some (r0, r1)) (w : World) {va0_0 : Value} {va0_1 : Value} (hr_a0_0 : Rd w va0_0 a0_0) (hr_a0_1 : Rd w va0_1 a0_1) :
  Calls Try.prog 146 ([.agg ([va0_0, va0_1].toArray), .bool a1] : List Value).toArray w (Post (fun u ns => ∃ (ur0 : Value) (Sr0 : Nat → Prop) (ur1 : Value) (Sr1 : Nat → Prop), u = .agg [ur0, ur1].toArray ∧ SlLen ur0 r0.length ∧ SlLen ur1 r1.length ∧ ns = [R.sl Sr0 ur0 r0, R.sl Sr1 ur1 r1]) w) := by
 unfold impl_play.f at h
 have hl_va0_0 := hr_a0_0.len
 have hl_va0_1 := hr_a0_1.len
 refine Calls.of_tri (N := 134) Try.func146 rfl rfl rfl (Sep.nil (M := noM)) ?_
 refine Tri.seq (Tri.reg (l := [0, 1]) rfl ?_)
 refine F.mn rfl (m_boxG rfl rfl) ?_
 rintro _ _ ⟨b2_1, rfl, rfl⟩
 refine F.mn rfl (m_alloc ti145) ?_
 rintro _ _ ⟨b4_1, rfl, rfl⟩
 refine F.nil (Nrm.seq (Tri.seq ?_))
 obtain ⟨y6, hE_1, h⟩ := bind_some h
 refine Tri.cut (fun e' C' => ∃ (v6_1 : Value) (S6_1 : Nat → Prop) (b5_2 : Nat), SlLen v6_1 (y6).length ∧ e' = [(1, .bool a1), (2, .pointer (some ⟨b2_1, 0, none⟩)), (4, .pointer (some ⟨b4_1, 0, none⟩)), (5, .pointer (some ⟨b5_2, 0, none⟩)), (6, v6_1)] ∧ C' = Sep w noM [R.box b4_1 145 [.slice none 0 0, .slice none 0 0], R.box b2_1 85 [va0_0, va0_1], R.box b5_2 145 [.slice none 0 0, .slice none 0 0], R.sl S6_1 v6_1 (y6 : List (Int))]) ?_ (fun hj_1 => ?_)
 ·rintro _ _ ⟨v6_1, S6_1, b5_2, hl_v6_1, rfl, rfl⟩
  refine Nrm.seq (Tri.seq (Tri.seq (Tri.reg (l := [0, 1, 2, 3]) rfl ?_)))
  refine F.qn rfl (r_fieldAddr tf85_0 rfl) (F.qn rfl (r_load ta82 rfl (fun w hw => cell_1 (box_cells (i := 1) rfl w hw) rfl)) (F.qn rfl (r_len Try.underlying82 rfl hl_va0_0) (F.qn rfl (r_move rfl) (F.nil (Nrm.seq ?_)))))
  obtain ⟨xq5_2_1, hE_2, h⟩ := bind_some h
  refine Tri.imp (fun w hw => hw.pushNil (α := List Int)) ?_
  refine Tri.block ?_
  refine Tri.only [1, 2, 4, 5, 6, 24, 25, 26] rfl ?_
  refine Tri.pick [1, 2, 3, 0, 4] rfl rfl ?_
  refine Tri.rounds (fun n e' C' => ∃ (x26' : Int) (xq5_2_1' : List (List Int)) (wq5_2_1 : Value) (Tq5_2_1 : Nat → Prop), impl_play.l0 k a0_0 n x26' xq5_2_1' = some xq5_2_1 ∧ SlLen wq5_2_1 (xq5_2_1').length ∧ e' = [(1, .bool a1), (2, .pointer (some ⟨b2_1, 0, none⟩)), (4, .pointer (some ⟨b4_1, 0, none⟩)), (5, .pointer (some ⟨b5_2, 0, none⟩)), (6, v6_1), (24, va0_0), (25, .int .i64 (a0_0.length : Int)), (26, .int .i64 x26')] ∧ C' = Sep w noM [R.box b4_1 145 [.slice none 0 0, .slice none 0 0], R.box b2_1 85 [va0_0, va0_1], R.box b5_2 145 [.slice none 0 0, wq5_2_1], R.sl Tq5_2_1 wq5_2_1 (xq5_2_1' : List (List Int)), R.sl S6_1 v6_1 (y6 : List (Int))]) k ?_ ?_ ?_
  ·exact ⟨0, ([] : List (List Int)), (nilv 0), (fun _ => False), hE_2, len_nil, rfl, rfl⟩
  ·rintro _ _ ⟨_, _, _, _, hE_2, _⟩
   rw [impl_play.l0.eq_1] at hE_2; cases hE_2
  ·rintro n_1 _ _ ⟨x26, xq5_2_1, wq5_2_1, Tq5_2_1, hE_2, hl_wq5_2_1, rfl, rfl⟩ ih_1
   rw [impl_play.l0.eq_2] at hE_2
   refine Tri.seq (Tri.reg (l := [0]) rfl ?_)
   refine F.qn rfl (r_lss rfl rfl) (F.nil (Nrm.seq (Tri.seq (Tri.cond (b := decide (x26 < (a0_0.length : Int))) rfl (fun g_1 => ?_) (fun g_1 => ?_)))))
   ·replace hE_2 := if_tt g_1 hE_2
    refine Tri.skip (Nrm.seq (Tri.seq (Tri.block ?_)))
    refine Tri.seq ?_
    obtain ⟨t28, h28, hE_2⟩ := bind_some hE_2
    obtain ⟨_, hc28, hp28⟩ := Rd.elem hr_a0_0 (rdl_some h28).2.2
    obtain ⟨v28_1, v28_2, rfl, hr_v28_1, hr_v28_2⟩ := op27 hp28
    have hl_v28_1 := hr_v28_1.len
    have hl_v28_2 := hr_v28_2.len
    refine Tri.reg (l := [0, 1, 2, 3]) rfl ?_
    refine F.qn rfl (r_indexAddrS Try.underlying82 ti27 rfl hl_va0_0 rfl (rdl_some h28).1 (rdl_some h28).2.1) (F.qn rfl (r_loadA ta27 ti27 rfl rfl (fun w hw => (hc28.sep hw))) ?_)
    refine F.mn rfl (m_alloc ti27) ?_
    rintro _ _ ⟨b8_1, rfl, rfl⟩
    refine F.ef0 rfl rfl (wanted_none rfl) (d_storeG0 (i := 0) (cs2 := [.int .i64 t28.1, v28_1, v28_2]) ti27 rfl rfl rfl rfl rfl (Nat.le_of_ble_eq_true rfl) (lf_cons rfl (lf_cons (sl_leaf hl_v28_1) (lf_cons (sl_leaf hl_v28_2) lf_nil)))) ?_
    rintro _ _ ⟨rfl, rfl⟩
    refine F.nil (Nrm.seq ?_)
    obtain ⟨t35, h35, hE_2⟩ := bind_some hE_2
    obtain ⟨hs37, hE_2⟩ := ck hE_2
    refine Tri.drawB mixedT Sep.up [(0, true), (1, true), (3, true), (4, true), (2, false), (5, false), (6, false)] [7, 8, 9] (by kernel_rfl) ?_
    refine B.q rfl rfl rfl (wanted_none rfl) (r_fieldAddr tf145_1 rfl) ?_
    refine B.q rfl rfl rfl (wanted_none rfl) (r_load ta83 rfl (fun w hw => cell_1 (box_cells (i := 3) rfl w hw) rfl)) ?_
    refine B.q rfl rfl rfl (wanted_none rfl) (r_fieldAddr tf27_0 rfl) ?_
    refine B.q rfl rfl rfl (wanted_none rfl) (r_load ta3 rfl (fun w hw => cell_1 (box_cells (i := 0) rfl w hw) rfl)) ?_
    refine B.ef rfl rfl rfl (wanted_none rfl) (Makes.does (m_buildF (l := ([(-1)] : List (Int))) Try.underlying25 ti3 rfl rfl rfl rfl rfl)) (by rintro v32_2 _ ⟨S32_2, hl_v32_2, rfl⟩; exact upd rfl [1, 2, 3, 4, 5, 6] rfl rfl) ?_
    rintro v32_2 _ ⟨S32_2, hl_v32_2, rfl⟩
    refine B.ef rfl rfl rfl (wanted_none rfl) (Makes.does (m_callF (xs := _) rfl ok198 rfl rfl (fun w hw => slices_Repeat_int_int.ok h35 w ((rd_sl (i := 0) rfl) w hw)))) (by rintro v35_2 _ ⟨_, ⟨S35_2, hl_v35_2, rfl⟩, rfl⟩; exact upd rfl [2, 3, 4, 5, 6, 7] rfl rfl) ?_
    rintro v35_2 _ ⟨_, ⟨S35_2, hl_v35_2, rfl⟩, rfl⟩
    refine B.ef rfl rfl rfl (wanted_none rfl) (d_build1 (cells := [v35_2]) (x0 := (t35 : List Int)) (cs := [R.sl S35_2 v35_2 (t35 : List (Int))]) (rest := [R.sl S32_2 v32_2 (([(-1)] : List (Int)) : List (Int)), R.box b8_1 27 [.int .i64 t28.1, v28_1, v28_2], R.box b4_1 145 [.slice none 0 0, .slice none 0 0], R.box b2_1 85 [va0_0, va0_1], R.box b5_2 145 [.slice none 0 0, wq5_2_1], R.sl Tq5_2_1 wq5_2_1 (xq5_2_1 : List (List Int)), R.sl S6_1 v6_1 (y6 : List (Int))]) [0] [1, 2, 3, 4, 5, 6, 7] Try.underlying83 ti25 rfl (sl_cells hl_v35_2) rfl (lf_cons (sl_leaf hl_v35_2) lf_nil) rfl rfl (jn_sl (S := S35_2) (v := v35_2) (l := (t35 : List (Int))))) (by rintro v36_2 _ ⟨S36_2, hl_v36_2, rfl⟩; exact upd rfl [2, 3, 4, 5, 6, 7] rfl rfl) ?_
    rintro v36_2 _ ⟨S36_2, hl_v36_2, rfl⟩
    refine B.nil ?_
    refine F.efn rfl (d_appendN (rest := [R.sl S32_2 v32_2 (([(-1)] : List (Int)) : List (Int)), R.box b8_1 27 [.int .i64 t28.1, v28_1, v28_2], R.box b4_1 145 [.slice none 0 0, .slice none 0 0], R.box b2_1 85 [va0_0, va0_1], R.box b5_2 145 [.slice none 0 0, wq5_2_1], R.sl S6_1 v6_1 (y6 : List (Int))]) 6 0 [1, 2, 3, 4, 5, 7] Try.underlying83 Try.underlying83 ti25 rfl (by decide) rfl rfl rfl rfl hs37) ?_
    rintro v37_2 _ ⟨S37_2, hl_v37_2, rfl⟩
    refine F.qn rfl (r_fieldAddr tf145_1 rfl) ?_
    refine F.ef0 rfl rfl (wanted_none rfl) (d_storeG1 (i := 5) (cs2 := [v37_2]) ti83 rfl rfl rfl (sl_cells hl_v37_2) rfl (Nat.le_of_ble_eq_true rfl) (lf_cons (sl_leaf hl_v37_2) lf_nil)) ?_
    rintro _ _ ⟨rfl, rfl⟩
    refine F.nil (Nrm.block ?_)
    refine Nrm.seq (Tri.reg (l := [0, 1]) rfl ?_)
    refine F.qn rfl (r_add rfl rfl) (F.qn rfl (r_move rfl) (F.nil (Nrm.round ?_)))
    refine Rnd.only [1, 2, 4, 5, 6, 24, 25, 26] rfl ?_
    refine Rnd.pick [3, 4, 5, 0, 6] rfl rfl ?_
    exact ih_1 _ _ ⟨w64 (x26 + 1), (xq5_2_1 : List (List Int)) ++ ([t35] : List (List Int)), v37_2, S37_2, hE_2, hl_v37_2, rfl, rfl⟩
   ·replace hE_2 := if_ff g_1 hE_2
    refine Tri.exit ?_
    refine Exi.then ?_
    refine Exi.then ?_
    refine Exi.same ?_
    cases hE_2
    refine Nrm.seq (Tri.seq (Tri.reg (l := [0]) rfl ?_))
    refine F.qn rfl (r_assign rfl) (F.nil (Nrm.seq ?_))
    obtain ⟨s1, hE_3, h⟩ := bind_some h
    refine Tri.imp (fun w hw => hw.pushNil (α := List Int)) ?_
    refine Tri.block ?_
    refine Tri.only [1, 2, 4, 5, 6, 9] rfl ?_
    refine Tri.pick [1, 2, 3, 0, 4, 5] rfl rfl ?_
    refine Tri.rounds (fun n e' C' => ∃ (x6' : List (Int)) (x9' : Int) (xq5_2_0' : List (List Int)) (xq5_2_1r' : List (List Int)) (w6 : Value) (T6 : Nat → Prop) (wq5_2_0 : Value) (Tq5_2_0 : Nat → Prop) (wq5_2_1r : Value) (Tq5_2_1r : Nat → Prop), impl_play.l1 k a0_0 a0_1 a1 n x6' x9' xq5_2_0' xq5_2_1r' = some s1 ∧ SlLen w6 (x6').length ∧ SlLen wq5_2_0 (xq5_2_0').length ∧ SlLen wq5_2_1r (xq5_2_1r').length ∧ e' = [(1, .bool a1), (2, .pointer (some ⟨b2_1, 0, none⟩)), (4, .pointer (some ⟨b4_1, 0, none⟩)), (5, .pointer (some ⟨b5_2, 0, none⟩)), (6, w6), (9, .int .i64 x9')] ∧ C' = Sep w noM [R.box b4_1 145 [.slice none 0 0, .slice none 0 0], R.box b2_1 85 [va0_0, va0_1], R.box b5_2 145 [wq5_2_0, wq5_2_1r], R.sl Tq5_2_0 wq5_2_0 (xq5_2_0' : List (List Int)), R.sl Tq5_2_1r wq5_2_1r (xq5_2_1r' : List (List Int)), R.sl T6 w6 (x6' : List (Int))]) k ?_ ?_ ?_
    ·exact ⟨y6, 0, ([] : List (List Int)), xq5_2_1, v6_1, S6_1, (nilv 1), (fun _ => False), wq5_2_1, Tq5_2_1, hE_3, hl_v6_1, len_nil, hl_wq5_2_1, rfl, rfl⟩
    ·rintro _ _ ⟨_, _, _, _, _, _, _, _, _, _, hE_3, _⟩
     rw [impl_play.l1.eq_1] at hE_3; cases hE_3
    ·rintro n_2 _ _ ⟨x6, x9, xq5_2_0, xq5_2_1r, w6, T6, wq5_2_0, Tq5_2_0, wq5_2_1r, Tq5_2_1r, hE_3, hl_w6, hl_wq5_2_0, hl_wq5_2_1r, rfl, rfl⟩ ih_2
     rw [impl_play.l1.eq_2] at hE_3
     refine Tri.seq (Tri.block ?_)
     refine Tri.seq ?_
     obtain ⟨t43, h43, hE_3⟩ := bind_some hE_3
     refine Tri.reg (l := [0, 1, 2]) rfl ?_
     refine F.qn rfl (r_move rfl) ?_
     refine F.mn rfl (m_callF (xs := _) rfl ok171 rfl rfl (fun w hw => slices_Clone_int_int.ok h43 w ((rd_sl (i := 5) rfl) w hw))) ?_
     rintro v43_1 _ ⟨_, ⟨S43_1, hl_v43_1, rfl⟩, rfl⟩
     refine F.qn rfl (r_assign rfl) (F.nil (Nrm.seq (Tri.seq (Tri.seq (Tri.reg (l := [0, 1, 2, 3]) rfl ?_)))))
     refine F.qn rfl (r_fieldAddr tf85_0 rfl) (F.qn rfl (r_load ta82 rfl (fun w hw => cell_1 (box_cells (i := 2) rfl w hw) rfl)) (F.qn rfl (r_len Try.underlying82 rfl hl_va0_0) (F.qn rfl (r_move rfl) (F.nil (Nrm.seq ?_)))))
     obtain ⟨⟨xq5_2_1rr, x10⟩, hE_4, hE_3⟩ := bind_some hE_3
     refine Tri.block ?_
     refine Tri.only [1, 2, 4, 5, 6, 9, 10, 45, 46, 47] rfl ?_
     refine Tri.pick [1, 2, 3, 0, 4, 5, 6] rfl rfl ?_
     refine Tri.rounds (fun n e' C' => ∃ (x10' : List (Int)) (x47' : Int) (xq5_2_1rr' : List (List Int)) (wq5_2_1rr : Value) (Tq5_2_1rr : Nat → Prop), impl_play.l2 k a0_0 a0_1 a1 x6 x9 n x10' x47' xq5_2_1rr' = some (xq5_2_1rr, x10) ∧ SlLen v43_1 (x10').length ∧ SlLen wq5_2_1rr (xq5_2_1rr').length ∧ e' = [(1, .bool a1), (2, .pointer (some ⟨b2_1, 0, none⟩)), (4, .pointer (some ⟨b4_1, 0, none⟩)), (5, .pointer (some ⟨b5_2, 0, none⟩)), (6, w6), (9, .int .i64 x9), (10, v43_1), (45, va0_0), (46, .int .i64 (a0_0.length : Int)), (47, .int .i64 x47')] ∧ C' = Sep w noM [R.box b4_1 145 [.slice none 0 0, .slice none 0 0], R.box b2_1 85 [va0_0, va0_1], R.box b5_2 145 [wq5_2_0, wq5_2_1rr], R.sl S43_1 v43_1 (x10' : List (Int)), R.sl Tq5_2_0 wq5_2_0 (xq5_2_0 : List (List Int)), R.sl Tq5_2_1rr wq5_2_1rr (xq5_2_1rr' : List (List Int)), R.sl T6 w6 (x6 : List (Int))]) k ?_ ?_ ?_
     ·exact ⟨t43, 0, xq5_2_1r, wq5_2_1r, Tq5_2_1r, hE_4, hl_v43_1, hl_wq5_2_1r, rfl, rfl⟩
     ·rintro _ _ ⟨_, _, _, _, _, hE_4, _⟩
      rw [impl_play.l2.eq_1] at hE_4; cases hE_4
     ·rintro n_3 _ _ ⟨x10, x47, xq5_2_1rr, wq5_2_1rr, Tq5_2_1rr, hE_4, hl_x10, hl_wq5_2_1rr, rfl, rfl⟩ ih_3
      rw [impl_play.l2.eq_2] at hE_4
      refine Tri.seq (Tri.reg (l := [0]) rfl ?_)
      refine F.qn rfl (r_lss rfl rfl) (F.nil (Nrm.seq (Tri.seq (Tri.cond (b := decide (x47 < (a0_0.length : Int))) rfl (fun g_2 => ?_) (fun g_2 => ?_)))))
      ·replace hE_4 := if_tt g_2 hE_4
       refine Tri.skip (Nrm.seq (Tri.seq (Tri.block ?_)))
       refine Tri.seq ?_
       obtain ⟨t50, h50, hE_4⟩ := bind_some hE_4
       obtain ⟨_, hc50, hp50⟩ := Rd.elem hr_a0_0 (rdl_some h50).2.2
       obtain ⟨v50_1, v50_2, rfl, hr_v50_1, hr_v50_2⟩ := op27 hp50
       have hl_v50_1 := hr_v50_1.len
       have hl_v50_2 := hr_v50_2.len
       refine Tri.reg (l := [0, 1, 2, 3, 4, 5]) rfl ?_
       refine F.qn rfl (r_move rfl) (F.qn rfl (r_indexAddrS Try.underlying82 ti27 rfl hl_va0_0 rfl (rdl_some h50).1 (rdl_some h50).2.1) (F.qn rfl (r_loadA ta27 ti27 rfl rfl (fun w hw => (hc50.sep hw))) ?_))
       refine F.mn rfl (m_alloc ti27) ?_
       rintro _ _ ⟨b12_1, rfl, rfl⟩
       refine F.qn rfl (r_assign rfl) ?_
       refine F.ef0 rfl rfl (wanted_none rfl) (d_storeG0 (i := 0) (cs2 := [.int .i64 t50.1, v50_1, v50_2]) ti27 rfl rfl rfl rfl rfl (Nat.le_of_ble_eq_true rfl) (lf_cons rfl (lf_cons (sl_leaf hl_v50_1) (lf_cons (sl_leaf hl_v50_2) lf_nil)))) ?_
       rintro _ _ ⟨rfl, rfl⟩
       refine F.nil (Nrm.seq (Tri.seq ?_))
       obtain ⟨t55, h55, hE_4⟩ := bind_some hE_4
       obtain ⟨t57, h57, hE_4⟩ := bind_some hE_4
       refine Tri.drawA mixedT Sep.up [(0, true), (1, true), (2, true), (3, true), (4, true), (5, true), (6, true)] [] (by kernel_rfl) ?_
       refine S.qn rfl (r_loadA ta27 ti27 rfl rfl (fun w hw => (box_cells (i := 0) rfl w hw))) (S.qn rfl (r_move rfl) (S.qn rfl (r_move rfl) (S.qn rfl (r_indexAddrS Try.underlying25 ti3 rfl hl_w6 rfl (rdl_some h55).1 (rdl_some h55).2.1) (S.qn rfl (r_load ta3 rfl (fun w hw => cell_0 (Rd.flat ((rd_sl (i := 7) rfl) w hw) (rdl_some h55).2.2) rfl)) ?_))))
       refine S.qcn rfl (q_callF (xs := _) rfl ok160 rfl rfl (fun w hw => impl_reach.ok h57 w ((fun _ hw => hr_v50_1.sep hw) w hw) ((fun _ hw => hr_v50_2.sep hw) w hw))) ?_
       refine S.qn rfl (r_assign rfl) (S.nil (F.nil (Nrm.seq (Tri.seq (Tri.seq ?_)))))
       obtain ⟨t59, h59, hE_4⟩ := bind_some hE_4
       refine Tri.reg (l := [0, 1, 2, 3]) rfl ?_
       refine F.qn rfl (r_move rfl) ?_
       refine F.mn rfl (m_callF (xs := _) rfl ok98 rfl rfl (fun w hw => impl_members.ok h59 w )) ?_
       rintro v59_1 _ ⟨_, ⟨S59_1, hl_v59_1, rfl⟩, rfl⟩
       refine F.qn rfl (r_len Try.underlying25 rfl hl_v59_1) (F.qn rfl (r_move rfl) (F.nil (Nrm.seq ?_)))
       obtain ⟨xq5_2_1rrr, hE_5, hE_4⟩ := bind_some hE_4
       refine Tri.block ?_
       refine Tri.only [1, 2, 4, 5, 6, 9, 10, 11, 12, 13, 45, 46, 47, 59, 60, 61] rfl ?_
       refine Tri.pick [1, 2, 3, 4, 0, 5, 6, 7, 8] rfl rfl ?_
       refine Tri.rounds (fun n e' C' => ∃ (x61' : Int) (xq5_2_1rrr' : List (List Int)) (wq5_2_1rrr : Value) (Tq5_2_1rrr : Nat → Prop), impl_play.l3 k x9 x47 t59 n x61' xq5_2_1rrr' = some xq5_2_1rrr ∧ SlLen wq5_2_1rrr (xq5_2_1rrr').length ∧ e' = [(1, .bool a1), (2, .pointer (some ⟨b2_1, 0, none⟩)), (4, .pointer (some ⟨b4_1, 0, none⟩)), (5, .pointer (some ⟨b5_2, 0, none⟩)), (6, w6), (9, .int .i64 x9), (10, v43_1), (11, .int .i64 x47), (12, .pointer (some ⟨b12_1, 0, none⟩)), (13, .int .i64 t57), (45, va0_0), (46, .int .i64 (a0_0.length : Int)), (47, .int .i64 x47), (59, v59_1), (60, .int .i64 (t59.length : Int)), (61, .int .i64 x61')] ∧ C' = Sep w noM [R.box b12_1 27 [.int .i64 t50.1, v50_1, v50_2], R.box b4_1 145 [.slice none 0 0, .slice none 0 0], R.box b2_1 85 [va0_0, va0_1], R.box b5_2 145 [wq5_2_0, wq5_2_1rrr], R.sl S59_1 v59_1 (t59 : List (Int)), R.sl S43_1 v43_1 (x10 : List (Int)), R.sl Tq5_2_0 wq5_2_0 (xq5_2_0 : List (List Int)), R.sl Tq5_2_1rrr wq5_2_1rrr (xq5_2_1rrr' : List (List Int)), R.sl T6 w6 (x6 : List (Int))]) k ?_ ?_ ?_
       ·exact ⟨0, xq5_2_1rr, wq5_2_1rr, Tq5_2_1rr, hE_5, hl_wq5_2_1rr, rfl, rfl⟩
       ·rintro _ _ ⟨_, _, _, _, hE_5, _⟩
        rw [impl_play.l3.eq_1] at hE_5; cases hE_5
       ·rintro n_4 _ _ ⟨x61, xq5_2_1rrr, wq5_2_1rrr, Tq5_2_1rrr, hE_5, hl_wq5_2_1rrr, rfl, rfl⟩ ih_4
        rw [impl_play.l3.eq_2] at hE_5
        refine Tri.seq (Tri.reg (l := [0]) rfl ?_)
        refine F.qn rfl (r_lss rfl rfl) (F.nil (Nrm.seq (Tri.seq (Tri.cond (b := decide (x61 < (t59.length : Int))) rfl (fun g_3 => ?_) (fun g_3 => ?_)))))
        ·replace hE_5 := if_tt g_3 hE_5
         refine Tri.skip (Nrm.seq (Tri.seq (Tri.block ?_)))
         refine Tri.seq ?_
         obtain ⟨t63, h63, hE_5⟩ := bind_some hE_5
         refine Tri.reg (l := [0, 1, 2]) rfl ?_
         refine F.qn rfl (r_indexAddrS Try.underlying25 ti3 rfl hl_v59_1 rfl (rdl_some h63).1 (rdl_some h63).2.1) (F.qn rfl (r_load ta3 rfl (fun w hw => cell_0 (Rd.flat ((rd_sl (i := 4) rfl) w hw) (rdl_some h63).2.2) rfl)) (F.qn rfl (r_assign rfl) (F.nil (Nrm.seq (Tri.seq ?_)))))
         obtain ⟨t68, h68, hE_5⟩ := bind_some hE_5
         obtain ⟨t71, h71, hE_5⟩ := bind_some hE_5
         refine Tri.ex (on25 [7] [0, 1, 2, 3, 4, 5, 6, 8] rfl rfl (rdl_some h68).2.2) ?_
         rintro _ ⟨v68_0_1, S68_0_1, Sr68_1, hl_v68_0_1, hS68_1, rfl⟩
         refine Tri.reg (l := [0, 1, 2, 3, 4, 5, 6, 7, 8]) rfl ?_
         refine F.qn rfl (r_fieldAddr tf145_1 rfl) ?_
         refine F.qn rfl (r_load ta83 rfl (fun w hw => cell_1 (box_cells (i := 5) rfl w hw) rfl)) (F.qn rfl (r_move rfl) (F.qn rfl (r_indexAddrS Try.underlying83 ti25 rfl hl_wq5_2_1rrr rfl (rdl_some h68).1 (rdl_some h68).2.1) (F.qn rfl (r_load ta25 rfl (fun w hw => cell_0 (hole_cells (p := 1) rfl w hw) rfl)) (F.qn rfl (r_move rfl) (F.qn rfl (r_indexAddrS Try.underlying25 ti3 rfl hl_v68_0_1 rfl (rdl_some h71).1 (rdl_some h71).2.1) ?_)))))
         refine F.qn rfl (r_load ta3 rfl (fun w hw => cell_0 (Rd.flat ((rd_sl (i := 0) rfl) w hw) (rdl_some h71).2.2) rfl)) (F.qn rfl (r_lss rfl rfl) (F.nil (Nrm.imp (cloS1 (cs := [R.sl S68_0_1 v68_0_1 (t68 : List (Int))]) (rest := [R.box b12_1 27 [.int .i64 t50.1, v50_1, v50_2], R.box b4_1 145 [.slice none 0 0, .slice none 0 0], R.box b2_1 85 [va0_0, va0_1], R.box b5_2 145 [wq5_2_0, wq5_2_1rrr], R.sl S59_1 v59_1 (t59 : List (Int)), R.sl S43_1 v43_1 (x10 : List (Int)), R.sl Tq5_2_0 wq5_2_0 (xq5_2_0 : List (List Int)), R.sl T6 w6 (x6 : List (Int))]) [0, 1] [2, 3, 4, 5, 6, 7, 8, 9] rfl rfl (jn_sl (S := S68_0_1) (v := v68_0_1) (l := (t68 : List (Int)))) hS68_1) ?_)))
         refine Nrm.seq ?_
         obtain ⟨yb5_2_1, hE_6, hE_5⟩ := bind_some hE_5
         refine Tri.cut (fun e' C' => ∃ (vb5_2_1_1 : Value) (Sb5_2_1_1 : Nat → Prop), SlLen vb5_2_1_1 (yb5_2_1).length ∧ e' = [(1, .bool a1), (2, .pointer (some ⟨b2_1, 0, none⟩)), (4, .pointer (some ⟨b4_1, 0, none⟩)), (5, .pointer (some ⟨b5_2, 0, none⟩)), (6, w6), (9, .int .i64 x9), (10, v43_1), (11, .int .i64 x47), (12, .pointer (some ⟨b12_1, 0, none⟩)), (13, .int .i64 t57), (45, va0_0), (46, .int .i64 (a0_0.length : Int)), (47, .int .i64 x47), (59, v59_1), (60, .int .i64 (t59.length : Int)), (61, .int .i64 x61)] ∧ C' = Sep w noM [R.box b12_1 27 [.int .i64 t50.1, v50_1, v50_2], R.box b4_1 145 [.slice none 0 0, .slice none 0 0], R.box b2_1 85 [va0_0, va0_1], R.box b5_2 145 [wq5_2_0, vb5_2_1_1], R.sl Sb5_2_1_1 vb5_2_1_1 (yb5_2_1 : List (List Int)), R.sl S43_1 v43_1 (x10 : List (Int)), R.sl S59_1 v59_1 (t59 : List (Int)), R.sl T6 w6 (x6 : List (Int)), R.sl Tq5_2_0 wq5_2_0 (xq5_2_0 : List (List Int))]) ?_ (fun hj_2 => ?_)
         ·rintro _ _ ⟨vb5_2_1_1, Sb5_2_1_1, hl_vb5_2_1_1, rfl, rfl⟩
          refine Nrm.block ?_
          refine Nrm.seq (Tri.reg (l := [0, 1]) rfl ?_)
          refine F.qn rfl (r_add rfl rfl) (F.qn rfl (r_move rfl) (F.nil (Nrm.round ?_)))
          refine Rnd.only [1, 2, 4, 5, 6, 9, 10, 11, 12, 13, 45, 46, 47, 59, 60, 61] rfl ?_
          refine Rnd.pick [0, 1, 2, 3, 6, 5, 8, 4, 7] rfl rfl ?_
          exact ih_4 _ _ ⟨w64 (x61 + 1), yb5_2_1, vb5_2_1_1, Sb5_2_1_1, hE_5, hl_vb5_2_1_1, rfl, rfl⟩
         ·refine Tri.cond (b := decide (t71 < 0)) rfl (fun g_4 => ?_) (fun g_4 => ?_)
          ·replace hE_6 := if_tt g_4 hE_6
           obtain ⟨t77, h77, hE_6⟩ := bind_some hE_6
           obtain ⟨t81, h81, hE_6⟩ := bind_some hE_6
           refine Tri.ex (on25 [0] [1, 2, 3, 4, 5, 6, 7, 8] rfl rfl (rdl_some h77).2.2) ?_
           rintro _ ⟨v77_0_1, S77_0_1, Sr77_1, hl_v77_0_1, hS77_1, rfl⟩
           refine Tri.reg (l := [0, 1, 2, 3, 4, 5, 6, 7, 8]) rfl ?_
           refine F.qn rfl (r_fieldAddr tf145_1 rfl) (F.qn rfl (r_load ta83 rfl (fun w hw => cell_1 (box_cells (i := 5) rfl w hw) rfl)) ?_)
           refine F.qn rfl (r_move rfl) (F.qn rfl (r_indexAddrS Try.underlying83 ti25 rfl (len_set hl_wq5_2_1rrr) rfl (rdl_some h77).1 (rdl_some h77).2.1) (F.qn rfl (r_load ta25 rfl (fun w hw => cell_0 (hole_cells (p := 1) rfl w hw) rfl)) (F.qn rfl (r_move rfl) (F.qn rfl (r_move rfl) (F.qn rfl (r_indexAddrS Try.underlying25 ti3 rfl hl_v77_0_1 rfl (rdl_some h81).1 (rdl_some h81).2.1) ?_)))))
           refine F.ef0 rfl rfl (wanted_none rfl) (d_storeE (i := 0) (x1 := x9) ti3 rfl rfl rfl (rdl_some h81) rfl) ?_
           rintro _ _ ⟨rfl, rfl⟩
           refine F.nil (Nrm.imp (cloS1 (cs := [R.sl S77_0_1 v77_0_1 (t77.set t63.toNat x9 : List (Int))]) (rest := [R.box b12_1 27 [.int .i64 t50.1, v50_1, v50_2], R.box b4_1 145 [.slice none 0 0, .slice none 0 0], R.box b2_1 85 [va0_0, va0_1], R.box b5_2 145 [wq5_2_0, wq5_2_1rrr], R.sl S59_1 v59_1 (t59 : List (Int)), R.sl S43_1 v43_1 (x10 : List (Int)), R.sl Tq5_2_0 wq5_2_0 (xq5_2_0 : List (List Int)), R.sl T6 w6 (x6 : List (Int))]) [0, 1] [2, 3, 4, 5, 6, 7, 8, 9] rfl rfl (jn_sl (S := S77_0_1) (v := v77_0_1) (l := (t77.set t63.toNat x9 : List (Int)))) hS77_1) ?_)
           cases hE_6
           refine Nrm.only [1, 2, 4, 5, 6, 9, 10, 11, 12, 13, 45, 46, 47, 59, 60, 61] rfl ?_
           refine Nrm.pick [1, 2, 3, 4, 0, 6, 5, 8, 7] rfl rfl ?_
           exact hj_2 _ _ ⟨wq5_2_1rrr, Tq5_2_1rrr, (len_set (len_set hl_wq5_2_1rrr)), rfl, rfl⟩
          ·replace hE_6 := if_ff g_4 hE_6
           refine Tri.skip ?_
           cases hE_6
           refine Nrm.only [1, 2, 4, 5, 6, 9, 10, 11, 12, 13, 45, 46, 47, 59, 60, 61] rfl ?_
           refine Nrm.pick [1, 2, 3, 4, 0, 6, 5, 8, 7] rfl rfl ?_
           exact hj_2 _ _ ⟨wq5_2_1rrr, Tq5_2_1rrr, (len_set hl_wq5_2_1rrr), rfl, rfl⟩
        ·replace hE_5 := if_ff g_3 hE_5
         refine Tri.exit ?_
         refine Exi.then ?_
         refine Exi.then ?_
         refine Exi.same ?_
         cases hE_5
         refine Nrm.seq (Tri.seq (Tri.seq ?_))
         obtain ⟨y92, hE_7, hE_4⟩ := bind_some hE_4
         refine Tri.cut (fun e' C' => e' = [(1, .bool a1), (2, .pointer (some ⟨b2_1, 0, none⟩)), (4, .pointer (some ⟨b4_1, 0, none⟩)), (5, .pointer (some ⟨b5_2, 0, none⟩)), (6, w6), (9, .int .i64 x9), (10, v43_1), (11, .int .i64 x47), (12, .pointer (some ⟨b12_1, 0, none⟩)), (13, .int .i64 t57), (45, va0_0), (46, .int .i64 (a0_0.length : Int)), (47, .int .i64 x47), (92, .bool y92)] ∧ C' = Sep w noM [R.box b12_1 27 [.int .i64 t50.1, v50_1, v50_2], R.box b4_1 145 [.slice none 0 0, .slice none 0 0], R.box b2_1 85 [va0_0, va0_1], R.box b5_2 145 [wq5_2_0, wq5_2_1rrr], R.sl S43_1 v43_1 (x10 : List (Int)), R.sl T6 w6 (x6 : List (Int)), R.sl Tq5_2_0 wq5_2_0 (xq5_2_0 : List (List Int)), R.sl Tq5_2_1rrr wq5_2_1rrr (xq5_2_1rrr : List (List Int))]) ?_ (fun hj_3 => ?_)
         ·rintro _ _ ⟨rfl, rfl⟩
          refine Nrm.seq ?_
          obtain ⟨y13, hE_8, hE_4⟩ := bind_some hE_4
          refine Tri.cut (fun e' C' => e' = [(1, .bool a1), (2, .pointer (some ⟨b2_1, 0, none⟩)), (4, .pointer (some ⟨b4_1, 0, none⟩)), (5, .pointer (some ⟨b5_2, 0, none⟩)), (6, w6), (9, .int .i64 x9), (10, v43_1), (11, .int .i64 x47), (12, .pointer (some ⟨b12_1, 0, none⟩)), (13, .int .i64 y13), (45, va0_0), (46, .int .i64 (a0_0.length : Int)), (47, .int .i64 x47)] ∧ C' = Sep w noM [R.box b12_1 27 [.int .i64 t50.1, v50_1, v50_2], R.box b4_1 145 [.slice none 0 0, .slice none 0 0], R.box b2_1 85 [va0_0, va0_1], R.box b5_2 145 [wq5_2_0, wq5_2_1rrr], R.sl S43_1 v43_1 (x10 : List (Int)), R.sl T6 w6 (x6 : List (Int)), R.sl Tq5_2_0 wq5_2_0 (xq5_2_0 : List (List Int)), R.sl Tq5_2_1rrr wq5_2_1rrr (xq5_2_1rrr : List (List Int))]) ?_ (fun hj_4 => ?_)
          ·rintro _ _ ⟨rfl, rfl⟩
           refine Nrm.seq (Tri.seq ?_)
           obtain ⟨t96, h96, hE_4⟩ := bind_some hE_4
           refine Tri.reg (l := [0, 1, 2, 3]) rfl ?_
           refine F.qn rfl (r_move rfl) ?_
           refine F.mn rfl (m_callF (xs := _) rfl ok98 rfl rfl (fun w hw => impl_members.ok h96 w )) ?_
           rintro v96_1 _ ⟨_, ⟨S96_1, hl_v96_1, rfl⟩, rfl⟩
           refine F.qn rfl (r_len Try.underlying25 rfl hl_v96_1) (F.qn rfl (r_move rfl) (F.nil (Nrm.seq ?_)))
           obtain ⟨x10r, hE_9, hE_4⟩ := bind_some hE_4
           refine Tri.block ?_
           refine Tri.only [1, 2, 4, 5, 6, 9, 10, 11, 12, 45, 46, 47, 96, 97, 98] rfl ?_
           refine Tri.pick [1, 2, 3, 4, 0, 5, 6, 7, 8] rfl rfl ?_
           refine Tri.rounds (fun n e' C' => ∃ (x10r' : List (Int)) (x98' : Int), impl_play.l4 k a0_1 x47 t50 t96 n x10r' x98' = some x10r ∧ SlLen v43_1 (x10r').length ∧ e' = [(1, .bool a1), (2, .pointer (some ⟨b2_1, 0, none⟩)), (4, .pointer (some ⟨b4_1, 0, none⟩)), (5, .pointer (some ⟨b5_2, 0, none⟩)), (6, w6), (9, .int .i64 x9), (10, v43_1), (11, .int .i64 x47), (12, .pointer (some ⟨b12_1, 0, none⟩)), (45, va0_0), (46, .int .i64 (a0_0.length : Int)), (47, .int .i64 x47), (96, v96_1), (97, .int .i64 (t96.length : Int)), (98, .int .i64 x98')] ∧ C' = Sep w noM [R.box b12_1 27 [.int .i64 t50.1, v50_1, v50_2], R.box b4_1 145 [.slice none 0 0, .slice none 0 0], R.box b2_1 85 [va0_0, va0_1], R.box b5_2 145 [wq5_2_0, wq5_2_1rrr], R.sl S96_1 v96_1 (t96 : List (Int)), R.sl S43_1 v43_1 (x10r' : List (Int)), R.sl T6 w6 (x6 : List (Int)), R.sl Tq5_2_0 wq5_2_0 (xq5_2_0 : List (List Int)), R.sl Tq5_2_1rrr wq5_2_1rrr (xq5_2_1rrr : List (List Int))]) k ?_ ?_ ?_
           ·exact ⟨x10, 0, hE_9, hl_x10, rfl, rfl⟩
           ·rintro _ _ ⟨_, _, hE_9, _⟩
            rw [impl_play.l4.eq_1] at hE_9; cases hE_9
           ·rintro n_5 _ _ ⟨x10r, x98, hE_9, hl_x10r, rfl, rfl⟩ ih_5
            rw [impl_play.l4.eq_2] at hE_9
            refine Tri.seq (Tri.reg (l := [0]) rfl ?_)
            refine F.qn rfl (r_lss rfl rfl) (F.nil (Nrm.seq (Tri.seq (Tri.cond (b := decide (x98 < (t96.length : Int))) rfl (fun g_6 => ?_) (fun g_6 => ?_)))))
            ·replace hE_9 := if_tt g_6 hE_9
             refine Tri.skip (Nrm.seq (Tri.seq (Tri.block ?_)))
             refine Tri.seq ?_
             obtain ⟨t100, h100, hE_9⟩ := bind_some hE_9
             refine Tri.reg (l := [0, 1, 2]) rfl ?_
             refine F.qn rfl (r_indexAddrS Try.underlying25 ti3 rfl hl_v96_1 rfl (rdl_some h100).1 (rdl_some h100).2.1) (F.qn rfl (r_load ta3 rfl (fun w hw => cell_0 (Rd.flat ((rd_sl (i := 4) rfl) w hw) (rdl_some h100).2.2) rfl)) (F.qn rfl (r_assign rfl) (F.nil (Nrm.seq ?_))))
             obtain ⟨t106, h106, hE_9⟩ := bind_some hE_9
             obtain ⟨_, hc106, hp106⟩ := Rd.elem hr_a0_1 (rdl_some h106).2.2
             obtain ⟨v106_0, rfl, hr_v106_0⟩ := op25 hp106
             have hl_v106_0 := hr_v106_0.len
             obtain ⟨t109, h109, hE_9⟩ := bind_some hE_9
             obtain ⟨t111, h111, hE_9⟩ := bind_some hE_9
             obtain ⟨t116, h116, hE_9⟩ := bind_some hE_9
             obtain ⟨t119, h119, hE_9⟩ := bind_some hE_9
             refine Tri.drawA mixedT Sep.up [(0, true), (1, true), (2, true), (3, true), (4, true), (5, true), (6, true), (7, true), (8, true), (9, true), (10, true), (11, true), (12, true), (13, true), (14, true), (15, true), (16, true), (17, true)] [18] (by kernel_rfl) ?_
             refine S.qn rfl (r_move rfl) (S.qn rfl (r_fieldAddr tf85_1 rfl) (S.qn rfl (r_load ta83 rfl (fun w hw => cell_1 (box_cells (i := 2) rfl w hw) rfl)) (S.qn rfl (r_move rfl) (S.qn rfl (r_indexAddrS Try.underlying83 ti25 rfl hl_va0_1 rfl (rdl_some h106).1 (rdl_some h106).2.1) (S.qn rfl (r_load ta25 rfl (fun w hw => cell_0 (hc106.sep hw) rfl)) ?_)))))
             refine S.qn rfl (r_move rfl) (S.qn rfl (r_indexAddrS Try.underlying25 ti3 rfl hl_v106_0 rfl (rdl_some h109).1 (rdl_some h109).2.1) (S.qn rfl (r_load ta3 rfl (fun w hw => cell_0 (Rd.flat ((fun _ hw => hr_v106_0.sep hw) w hw) (rdl_some h109).2.2) rfl)) (S.qn rfl (r_indexAddrS Try.underlying25 ti3 rfl hl_x10r rfl (rdl_some h111).1 (rdl_some h111).2.1) (S.qn rfl (r_load ta3 rfl (fun w hw => cell_0 (Rd.flat ((rd_sl (i := 5) rfl) w hw) (rdl_some h111).2.2) rfl)) (S.qn rfl (r_fieldAddr tf27_2 rfl) ?_)))))
             refine S.qn rfl (r_load ta25 rfl (fun w hw => cell_1 (box_cells (i := 0) rfl w hw) rfl)) (S.qn rfl (r_move rfl) (S.qn rfl (r_indexAddrS Try.underlying25 ti3 rfl hl_v50_2 rfl (rdl_some h116).1 (rdl_some h116).2.1) (S.qn rfl (r_load ta3 rfl (fun w hw => cell_0 (Rd.flat ((fun _ hw => hr_v50_2.sep hw) w hw) (rdl_some h116).2.2) rfl)) (S.qn rfl (r_or rfl rfl) (S.qn rfl (r_indexAddrS Try.underlying25 ti3 rfl hl_x10r rfl (rdl_some h119).1 (rdl_some h119).2.1) (S.nil (F.ef0 rfl rfl (wanted_none rfl) (d_storeE (i := 5) (x1 := bor t111 t116) ti3 rfl rfl rfl (rdl_some h119) rfl) ?_)))))))
             rintro _ _ ⟨rfl, rfl⟩
             refine F.nil (Nrm.block ?_)
             refine Nrm.seq (Tri.reg (l := [0, 1]) rfl ?_)
             refine F.qn rfl (r_add rfl rfl) (F.qn rfl (r_move rfl) (F.nil (Nrm.round ?_)))
             refine Rnd.only [1, 2, 4, 5, 6, 9, 10, 11, 12, 45, 46, 47, 96, 97, 98] rfl ?_
             refine Rnd.pick [0, 1, 2, 3, 4, 5, 6, 7, 8] rfl rfl ?_
             exact ih_5 _ _ ⟨x10r.set t109.toNat (bor t111 t116), w64 (x98 + 1), hE_9, (len_set hl_x10r), rfl, rfl⟩
            ·replace hE_9 := if_ff g_6 hE_9
             refine Tri.exit ?_
             refine Exi.then ?_
             refine Exi.then ?_
             refine Exi.same ?_
             cases hE_9
             refine Nrm.block ?_
             refine Nrm.seq (Tri.reg (l := [0, 1]) rfl ?_)
             refine F.qn rfl (r_add rfl rfl) (F.qn rfl (r_move rfl) (F.nil (Nrm.round ?_)))
             refine Rnd.only [1, 2, 4, 5, 6, 9, 10, 45, 46, 47] rfl ?_
             refine Rnd.pick [1, 2, 3, 5, 7, 8, 6] rfl rfl ?_
             exact ih_3 _ _ ⟨x10r, w64 (x47 + 1), xq5_2_1rrr, wq5_2_1rrr, Tq5_2_1rrr, hE_4, hl_x10r, hl_wq5_2_1rrr, rfl, rfl⟩
          ·refine Tri.cond (b := y92) rfl (fun g_5 => ?_) (fun g_5 => ?_)
           ·replace hE_8 := if_tt g_5 hE_8
            obtain ⟨t94, h94, hE_8⟩ := bind_some hE_8
            refine Tri.reg (l := [0, 1, 2]) rfl ?_
            refine F.qn rfl (r_loadA ta27 ti27 rfl rfl (fun w hw => (box_cells (i := 0) rfl w hw))) ?_
            refine F.qcn rfl (q_callF (xs := _) rfl ok199 rfl rfl (fun w hw => impl_allNodes.ok h94 w ((fun _ hw => hr_v50_1.sep hw) w hw) ((fun _ hw => hr_v50_2.sep hw) w hw))) ?_
            refine F.qn rfl (r_assign rfl) (F.nil ?_)
            cases hE_8
            refine Nrm.only [1, 2, 4, 5, 6, 9, 10, 11, 12, 13, 45, 46, 47] rfl ?_
            refine Nrm.pick [0, 1, 2, 3, 4, 5, 6, 7] rfl rfl ?_
            exact hj_4 _ _ ⟨rfl, rfl⟩
           ·replace hE_8 := if_ff g_5 hE_8
            refine Tri.skip ?_
            cases hE_8
            refine Nrm.only [1, 2, 4, 5, 6, 9, 10, 11, 12, 13, 45, 46, 47] rfl ?_
            refine Nrm.pick [0, 1, 2, 3, 4, 5, 6, 7] rfl rfl ?_
            exact hj_4 _ _ ⟨rfl, rfl⟩
         ·rcases Bool.eq_false_or_eq_true (a1) with g84 | g84
          ·replace hE_7 := if_tt g84 hE_7
           obtain ⟨hs89, hE_7⟩ := ck hE_7
           refine Tri.reg (l := [0, 1, 2, 3, 4, 5, 6, 7, 8, 9]) rfl ?_
           refine F.qn rfl (r_move rfl) (F.qn rfl (r_move rfl) (F.qg rfl g84 (r_move rfl) (F.qg rfl g84 (r_fieldAddr tf27_0 rfl) ?_)))
           refine F.qg rfl g84 (r_load ta3 rfl (fun w hw => cell_1 (box_cells (i := 0) rfl w hw) rfl)) (F.qg rfl g84 (r_sub rfl rfl) (F.qg rfl g84 (r_shr rfl rfl hs89) (F.qg rfl g84 (r_and rfl rfl) (F.qg rfl g84 (r_eql rfl rfl) (F.qn rfl (r_pick rfl rfl g84) (F.nil ?_))))))
           cases hE_7
           refine Nrm.only [1, 2, 4, 5, 6, 9, 10, 11, 12, 13, 45, 46, 47, 92] rfl ?_
           refine Nrm.pick [0, 1, 2, 3, 5, 8, 6, 7] rfl rfl ?_
           exact hj_3 _ _ ⟨rfl, rfl⟩
          ·replace hE_7 := if_ff g84 hE_7
           refine Tri.reg (l := [0, 1, 2, 3, 4, 5, 6, 7, 8, 9]) rfl ?_
           refine F.qn rfl (r_move rfl) (F.qn rfl (r_move rfl) ?_)
           iterate 7 refine F.skf rfl g84 ?_
           refine F.qn rfl (r_pickf rfl rfl g84) (F.nil ?_)
           cases hE_7
           refine Nrm.only [1, 2, 4, 5, 6, 9, 10, 11, 12, 13, 45, 46, 47, 92] rfl ?_
           refine Nrm.pick [0, 1, 2, 3, 5, 8, 6, 7] rfl rfl ?_
           exact hj_3 _ _ ⟨rfl, rfl⟩
      ·replace hE_4 := if_ff g_2 hE_4
       refine Tri.exit ?_
       refine Exi.then ?_
       refine Exi.then ?_
       refine Exi.same ?_
       cases hE_4
       refine Nrm.seq (Tri.seq ?_)
       obtain ⟨t125, h125, hE_3⟩ := bind_some hE_3
       obtain ⟨hs127, hE_3⟩ := ck hE_3
       refine Tri.drawB mixedT Sep.up [(0, true), (1, true), (2, true), (3, false), (4, false)] [5, 6, 7] (by kernel_rfl) ?_
       refine B.q rfl rfl rfl (wanted_none rfl) (r_fieldAddr tf145_0 rfl) ?_
       refine B.q rfl rfl rfl (wanted_none rfl) (r_load ta83 rfl (fun w hw => cell_1 (box_cells (i := 2) rfl w hw) rfl)) ?_
       refine B.q rfl rfl rfl (wanted_none rfl) (r_move rfl) ?_
       refine B.ef rfl rfl rfl (wanted_none rfl) (Makes.does (m_callF (xs := _) rfl ok171 rfl rfl (fun w hw => slices_Clone_int_int.ok h125 w ((rd_sl (i := 6) rfl) w hw)))) (by rintro v125_2 _ ⟨_, ⟨S125_2, hl_v125_2, rfl⟩, rfl⟩; exact upd rfl [1, 2, 3, 4, 5, 6, 7] rfl rfl) ?_
       rintro v125_2 _ ⟨_, ⟨S125_2, hl_v125_2, rfl⟩, rfl⟩
       refine B.ef rfl rfl rfl (wanted_none rfl) (d_build1 (cells := [v125_2]) (x0 := (t125 : List Int)) (cs := [R.sl S125_2 v125_2 (t125 : List (Int))]) (rest := [R.box b4_1 145 [.slice none 0 0, .slice none 0 0], R.box b2_1 85 [va0_0, va0_1], R.box b5_2 145 [wq5_2_0, wq5_2_1rr], R.sl S43_1 v43_1 (x10 : List (Int)), R.sl Tq5_2_0 wq5_2_0 (xq5_2_0 : List (List Int)), R.sl Tq5_2_1rr wq5_2_1rr (xq5_2_1rr : List (List Int)), R.sl T6 w6 (x6 : List (Int))]) [0] [1, 2, 3, 4, 5, 6, 7] Try.underlying83 ti25 rfl (sl_cells hl_v125_2) rfl (lf_cons (sl_leaf hl_v125_2) lf_nil) rfl rfl (jn_sl (S := S125_2) (v := v125_2) (l := (t125 : List (Int))))) (by rintro v126_2 _ ⟨S126_2, hl_v126_2, rfl⟩; exact upd rfl [1, 2, 3, 4, 5, 6, 7] rfl rfl) ?_
       rintro v126_2 _ ⟨S126_2, hl_v126_2, rfl⟩
       refine B.nil ?_
       refine F.efn rfl (d_appendN (rest := [R.box b4_1 145 [.slice none 0 0, .slice none 0 0], R.box b2_1 85 [va0_0, va0_1], R.box b5_2 145 [wq5_2_0, wq5_2_1rr], R.sl S43_1 v43_1 (x10 : List (Int)), R.sl Tq5_2_1rr wq5_2_1rr (xq5_2_1rr : List (List Int)), R.sl T6 w6 (x6 : List (Int))]) 5 0 [1, 2, 3, 4, 6, 7] Try.underlying83 Try.underlying83 ti25 rfl (by decide) rfl rfl rfl rfl hs127) ?_
       rintro v127_2 _ ⟨S127_2, hl_v127_2, rfl⟩
       refine F.qn rfl (r_fieldAddr tf145_0 rfl) ?_
       refine F.ef0 rfl rfl (wanted_none rfl) (d_storeG1 (i := 3) (cs2 := [v127_2]) ti83 rfl rfl rfl (sl_cells hl_v127_2) rfl (Nat.le_of_ble_eq_true rfl) (lf_cons (sl_leaf hl_v127_2) lf_nil)) ?_
       rintro _ _ ⟨rfl, rfl⟩
       refine F.nil (Nrm.seq (Tri.seq (Tri.seq ?_)))
       obtain ⟨t131, h131, hE_3⟩ := bind_some hE_3
       refine Tri.reg (l := [0, 1, 2]) rfl ?_
       refine F.qn rfl (r_move rfl) (F.qn rfl (r_move rfl) ?_)
       refine F.qcn rfl (q_callF (xs := _) rfl ok173 rfl rfl (fun w hw => slices_Equal_int_int.ok h131 w ((rd_sl (i := 4) rfl) w hw) ((rd_sl (i := 6) rfl) w hw))) ?_
       refine F.nil (Nrm.seq (Tri.cond (b := t131) rfl (fun g_7 => ?_) (fun g_7 => ?_)))
       ·replace hE_3 := if_tt g_7 hE_3
        refine Tri.seq (Tri.reg (l := [0, 1]) rfl ?_)
        refine F.qn rfl (r_loadA ta145 ti145 rfl rfl (fun w hw => (box_cells (i := 3) rfl w hw))) ?_
        refine F.ef0 rfl rfl (wanted_none rfl) (d_storeG0 (i := 1) (cs2 := [v127_2, wq5_2_1rr]) ti145 rfl rfl rfl rfl rfl (Nat.le_of_ble_eq_true rfl) (lf_cons (sl_leaf hl_v127_2) (lf_cons (sl_leaf hl_wq5_2_1rr) lf_nil))) ?_
        rintro _ _ ⟨rfl, rfl⟩
        refine F.nil (Nrm.seq (Tri.ret ?_))
        refine Rtn.then ?_
        refine Rtn.block ?_
        refine Rtn.then ?_
        refine Rtn.then ?_
        refine Rtn.block ?_
        cases hE_3
        replace h := Lr_inr h
        cases h
        exact Rtn.body (.cell rfl ta145 ti145 rfl (fun _ hw => box_cells (i := 1) rfl _ hw) .nil) (fun w hw => ⟨_, _, rfl, ⟨v127_2, S127_2, wq5_2_1rr, Tq5_2_1rr, rfl, hl_v127_2, hl_wq5_2_1rr, rfl⟩, Sep.pick (is := [0, 5]) rfl rfl hw⟩)
       ·replace hE_3 := if_ff g_7 hE_3
        refine Tri.skip (Nrm.seq (Tri.reg (l := [0, 1]) rfl ?_))
        refine F.qn rfl (r_move rfl) (F.qn rfl (r_assign rfl) (F.nil (Nrm.block ?_)))
        refine Nrm.seq (Tri.reg (l := [0, 1, 2]) rfl ?_)
        refine F.qn rfl (r_move rfl) (F.qn rfl (r_add rfl rfl) (F.qn rfl (r_assign rfl) (F.nil (Nrm.round ?_))))
        refine Rnd.only [1, 2, 4, 5, 6, 9] rfl ?_
        refine Rnd.pick [1, 2, 3, 0, 5, 4] rfl rfl ?_
        exact ih_2 _ _ ⟨x10, w64 (x9 + 1), (xq5_2_0 : List (List Int)) ++ ([t125] : List (List Int)), xq5_2_1rr, v43_1, S43_1, v127_2, S127_2, wq5_2_1rr, Tq5_2_1rr, hE_3, hl_x10, hl_v127_2, hl_wq5_2_1rr, rfl, rfl⟩
 ·obtain ⟨hm22, hE_1⟩ := ck hE_1
  refine Tri.drawT mixedT Sep.up [0, 1, 2, 3, 4, 5, 6] [7] (.q 0 (.q 1 (.q 2 (.q 3 (.alt 4 (.alt 5 (.alt 6 .nil .stop) .stop) (.alt 5 (.alt 4 (.alt 6 .nil .stop) (.alt 6 (.alt 4 .nil .stop) .stop)) .stop)))))) (by kernel_rfl) ?_
  refine T.q rfl rfl rfl (wanted_none rfl) (r_build (pl := [(0, 1), (1, 1)]) (qs := []) (cs := [.slice none 0 0, .slice none 0 0]) (by kernel_rfl) ti145 rfl .nil rfl rfl) ?_
  refine T.q rfl rfl rfl (wanted_none rfl) (r_fieldAddr tf85_0 rfl) ?_
  refine T.q rfl rfl rfl (wanted_none rfl) (r_load ta82 rfl (fun w hw => cell_1 (box_cells (i := 1) rfl w hw) rfl)) ?_
  refine T.q rfl rfl rfl (wanted_none rfl) (r_len Try.underlying82 rfl hl_va0_0) ?_
  refine T.ef rfl rfl rfl (wanted_none rfl) (Makes.does (m_make (x0 := (0 : Int)) Try.underlying25 ti3 rfl rfl rfl hm22.1 hm22.2 (by decide))) (by rintro v22_2 _ ⟨S22_2, hl_v22_2, rfl⟩; exact upd rfl [1, 2] rfl rfl) ?_ ?_
  ·rintro v22_2 _ ⟨S22_2, hl_v22_2, rfl⟩
   refine T.ef rfl rfl rfl (wanted_none rfl) (Makes.does (m_alloc ti145)) (by rintro _ _ ⟨b5_3, rfl, rfl⟩; exact upd rfl [2, 3] rfl rfl) ?_ ?_
   ·rintro _ _ ⟨b5_3, rfl, rfl⟩
    refine T.ef0 rfl rfl (wanted_none rfl) (d_storeG0 (i := 0) (cs2 := [.slice none 0 0, .slice none 0 0]) ti145 rfl rfl rfl rfl rfl (Nat.le_of_ble_eq_true rfl) (lf_cons rfl (lf_cons rfl lf_nil))) (by rintro _ _ ⟨rfl, rfl⟩; exact upd rfl [2, 3] rfl rfl) ?_ ?_
    ·rintro _ _ ⟨rfl, rfl⟩
     refine T.nil ?_
     refine F.qn rfl (r_assign rfl) (F.nil ?_)
     cases hE_1
     refine Nrm.only [1, 2, 4, 5, 6] rfl ?_
     refine Nrm.pick [2, 3, 0, 1] rfl rfl ?_
     exact hj_1 _ _ ⟨v22_2, S22_2, b5_3, hl_v22_2, rfl, rfl⟩
    exact T.stop
   exact T.stop
  ·refine T.ef rfl rfl rfl (wanted_none rfl) (Makes.does (m_alloc ti145)) (by rintro _ _ ⟨b5_4, rfl, rfl⟩; exact upd rfl [1, 2] rfl rfl) ?_ ?_
   ·rintro _ _ ⟨b5_4, rfl, rfl⟩
    refine T.ef rfl rfl rfl (wanted_none rfl) (Makes.does (m_make (x0 := (0 : Int)) Try.underlying25 ti3 rfl rfl rfl hm22.1 hm22.2 (by decide))) (by rintro v22_3 _ ⟨S22_3, hl_v22_3, rfl⟩; exact upd rfl [2, 3] rfl rfl) ?_ ?_
    ·rintro v22_3 _ ⟨S22_3, hl_v22_3, rfl⟩
     refine T.ef0 rfl rfl (wanted_none rfl) (d_storeG0 (i := 1) (cs2 := [.slice none 0 0, .slice none 0 0]) ti145 rfl rfl rfl rfl rfl (Nat.le_of_ble_eq_true rfl) (lf_cons rfl (lf_cons rfl lf_nil))) (by rintro _ _ ⟨rfl, rfl⟩; exact upd rfl [2, 3] rfl rfl) ?_ ?_
     ·rintro _ _ ⟨rfl, rfl⟩
      refine T.nil ?_
      refine F.qn rfl (r_assign rfl) (F.nil ?_)
      cases hE_1
      refine Nrm.only [1, 2, 4, 5, 6] rfl ?_
      refine Nrm.pick [2, 3, 1, 0] rfl rfl ?_
      exact hj_1 _ _ ⟨v22_3, S22_3, b5_4, hl_v22_3, rfl, rfl⟩
     exact T.stop
    ·refine T.ef0 rfl rfl (wanted_none rfl) (d_storeG0 (i := 0) (cs2 := [.slice none 0 0, .slice none 0 0]) ti145 rfl rfl rfl rfl rfl (Nat.le_of_ble_eq_true rfl) (lf_cons rfl (lf_cons rfl lf_nil))) (by rintro _ _ ⟨rfl, rfl⟩; exact upd rfl [1, 2] rfl rfl) ?_ ?_
     ·rintro _ _ ⟨rfl, rfl⟩
      refine T.ef rfl rfl rfl (wanted_none rfl) (Makes.does (m_make (x0 := (0 : Int)) Try.underlying25 ti3 rfl rfl rfl hm22.1 hm22.2 (by decide))) (by rintro v22_4 _ ⟨S22_4, hl_v22_4, rfl⟩; exact upd rfl [2, 3] rfl rfl) ?_ ?_
      ·rintro v22_4 _ ⟨S22_4, hl_v22_4, rfl⟩
       refine T.nil ?_
       refine F.qn rfl (r_assign rfl) (F.nil ?_)
       cases hE_1
       refine Nrm.only [1, 2, 4, 5, 6] rfl ?_
       refine Nrm.pick [2, 3, 1, 0] rfl rfl ?_
       exact hj_1 _ _ ⟨v22_4, S22_4, b5_4, hl_v22_4, rfl, rfl⟩
      exact T.stop
     exact T.stop
   exact T.stop


def impl_RoundSets.f (k : Nat) (a0_0 : List (Int × List (Int × Int × Int) × List Int)) (a0_1 : List (List Int)) : Option ((List (List Int)) × Bool) := (impl_IsWorlds.f k a0_0 a0_1).bind fun t5 => (if (!t5) = true then some ([], false) else (impl_play.f k a0_0 a0_1 false).bind fun (t8_1, t8_2) => some (t8_1, true))

theorem impl_RoundSets.ok {k : Nat}  {a0_0 : List (Int × List (Int × Int × Int) × List Int)} {a0_1 : List (List Int)} {r0 : List (List Int)} {r1 : Bool} (h : impl_RoundSets.f k a0_0 a0_1 = some (r0, r1)) (w : World) {va0_0 : Value} {va0_1 : Value} (hr_a0_0 : Rd w va0_0 a0_0) (hr_a0_1 : Rd w va0_1 a0_1) :
  Calls Try.prog 67 ([.agg ([va0_0, va0_1].toArray)] : List Value).toArray w (Post (fun u ns => ∃ (ur0 : Value) (Sr0 : Nat → Prop), u = .tuple #[ur0, .bool r1] ∧ SlLen ur0 r0.length ∧ ns = [R.sl Sr0 ur0 r0]) w) := by
 unfold impl_RoundSets.f at h
 have hl_va0_0 := hr_a0_0.len
 have hl_va0_1 := hr_a0_1.len
 refine Calls.of_tri (N := 10) Try.func67 rfl rfl rfl (Sep.nil (M := noM)) ?_
 refine Tri.seq (Tri.reg (l := [0, 1, 2]) rfl ?_)
 refine F.mn rfl (m_boxG rfl rfl) ?_
 rintro _ _ ⟨b1_1, rfl, rfl⟩
 refine F.qn rfl (r_assign rfl) (F.qn rfl (r_assign rfl) (F.nil (Nrm.seq (Tri.seq (Tri.seq ?_)))))
 obtain ⟨t5, h5, h⟩ := bind_some h
 refine Tri.reg (l := [0, 1, 2]) rfl ?_
 refine F.qn rfl (r_loadA ta85 ti85 rfl rfl (fun w hw => (box_cells (i := 0) rfl w hw))) ?_
 refine F.qcn rfl (q_callF (xs := _) rfl ok69 rfl rfl (fun w hw => impl_IsWorlds.ok h5 w ((fun _ hw => hr_a0_0.sep hw) w hw) ((fun _ hw => hr_a0_1.sep hw) w hw))) ?_
 refine F.qn rfl (r_not rfl) (F.nil (Nrm.seq (Tri.cond (b := !t5) rfl (fun g_1 => ?_) (fun g_1 => ?_))))
 ·replace h := if_tt g_1 h
  refine Tri.seq (Tri.reg (l := [0, 1]) rfl ?_)
  refine F.qn rfl (r_assign rfl) (F.qn rfl (r_assign rfl) (F.nil (Nrm.seq (Tri.ret ?_))))
  refine Rtn.then ?_
  cases h
  exact Rtn.body (.tmp rfl (.tmp rfl .nil)) (fun w hw => ⟨_, _, rfl, ⟨.slice none 0 0, fun _ => False, rfl, len_nil, rfl⟩, Sep.pick (is := [0]) rfl rfl hw.pushNil⟩)
 ·replace h := if_ff g_1 h
  refine Tri.skip (Nrm.seq (Tri.seq ?_))
  obtain ⟨⟨t8_1, t8_2⟩, h8, h⟩ := bind_some h
  refine Tri.reg (l := [0, 1, 2, 3, 4]) rfl ?_
  refine F.qn rfl (r_loadA ta85 ti85 rfl rfl (fun w hw => (box_cells (i := 0) rfl w hw))) ?_
  refine F.mn rfl (m_callF (xs := _) rfl ok146 rfl rfl (fun w hw => impl_play.ok h8 w ((fun _ hw => hr_a0_0.sep hw) w hw) ((fun _ hw => hr_a0_1.sep hw) w hw))) ?_
  rintro _ _ ⟨_, ⟨v8_1, S8_1, v8_2, S8_2, rfl, hl_v8_1, hl_v8_2, rfl⟩, rfl⟩
  refine F.qn rfl (r_field Try.underlying145 rfl ta83 rfl rfl) (F.qn rfl (r_assign rfl) (F.qn rfl (r_assign rfl) (F.nil (Nrm.seq (Tri.ret ?_)))))
  cases h
  exact Rtn.body (.tmp rfl (.tmp rfl .nil)) (fun w hw => ⟨_, _, rfl, ⟨v8_1, S8_1, rfl, hl_v8_1, rfl⟩, Sep.pick (is := [0]) rfl rfl hw⟩)


def spec_l1In.f (k : Nat) (a0 : Int) (a1 : Int) (a2 : Int) : Option (Bool) := ((if (decide (a0 ≥ a1)) = true then some (decide (a0 ≤ a2)) else some false)).bind fun y6 => some y6

theorem spec_l1In.ok {k : Nat}  {a0 : Int} {a1 : Int} {a2 : Int} {r0 : Bool} (h : spec_l1In.f k a0 a1 a2 = some r0) (w : World) :
  Calls Try.prog 105 ([.int .i64 a0, .int .i64 a1, .int .i64 a2] : List Value).toArray w (fun e w' => e = .returned (.bool r0) ∧ Ext w w') := by
 unfold spec_l1In.f at h
 refine Calls.of_tri (N := 15) Try.func105 rfl rfl rfl (Sep.nil (M := noM)) ?_
 refine Tri.seq (Tri.reg (l := [0]) rfl ?_)
 refine F.qn rfl (r_assign rfl) (F.nil (Nrm.seq (Tri.seq ?_)))
 obtain ⟨y6, hE_1, h⟩ := bind_some h
 refine Tri.cut (fun e' C' => e' = [(6, .bool y6)] ∧ C' = Sep w noM []) ?_ (fun hj_1 => ?_)
 ·rintro _ _ ⟨rfl, rfl⟩
  refine Nrm.seq (Tri.ret ?_)
  cases h
  exact Rtn.body (.tmp rfl .nil) (fun w hw => ⟨rfl, hw.ext⟩)
 ·rcases Bool.eq_false_or_eq_true (decide (a0 ≥ a1)) with g10 | g10
  ·replace hE_1 := if_tt g10 hE_1
   refine Tri.reg (l := [0, 1, 2, 3, 4, 5, 6, 7, 8]) rfl ?_
   refine F.qn rfl (r_move rfl) (F.qn rfl (r_move rfl) (F.qn rfl (r_geq rfl rfl) ?_))
   refine F.qn rfl (r_move rfl) (F.qg rfl g10 (r_move rfl) (F.qg rfl g10 (r_move rfl) (F.qg rfl g10 (r_leq rfl rfl) (F.qn rfl (r_pick rfl rfl g10) (F.qn rfl (r_assign rfl) (F.nil ?_))))))
   cases hE_1
   refine Nrm.only [6] rfl ?_
   refine Nrm.pick [] rfl rfl ?_
   exact hj_1 _ _ ⟨rfl, rfl⟩
  ·replace hE_1 := if_ff g10 hE_1
   refine Tri.reg (l := [0, 1, 2, 3, 4, 5, 6, 7, 8]) rfl ?_
   refine F.qn rfl (r_move rfl) (F.qn rfl (r_move rfl) (F.qn rfl (r_geq rfl rfl) (F.qn rfl (r_move rfl) ?_)))
   iterate 3 refine F.skf rfl g10 ?_
   refine F.qn rfl (r_pickf rfl rfl g10) (F.qn rfl (r_assign rfl) (F.nil ?_))
   cases hE_1
   refine Nrm.only [6] rfl ?_
   refine Nrm.pick [] rfl rfl ?_
   exact hj_1 _ _ ⟨rfl, rfl⟩


def spec_l2Set.f (k : Nat) (a0 : Int) : Option (Bool) := (spec_l1In.f k a0 0 63).bind fun t4 => some t4

theorem spec_l2Set.ok {k : Nat}  {a0 : Int} {r0 : Bool} (h : spec_l2Set.f k a0 = some r0) (w : World) :
  Calls Try.prog 92 ([.int .i64 a0] : List Value).toArray w (fun e w' => e = .returned (.bool r0) ∧ Ext w w') := by
 unfold spec_l2Set.f at h
 refine Calls.of_tri (N := 5) Try.func92 rfl rfl rfl (Sep.nil (M := noM)) ?_
 refine Tri.seq (Tri.reg (l := [0]) rfl ?_)
 refine F.qn rfl (r_assign rfl) (F.nil (Nrm.seq (Tri.seq ?_)))
 obtain ⟨t4, h4, h⟩ := bind_some h
 refine Tri.reg (l := [0, 1, 2]) rfl ?_
 refine F.qn rfl (r_move rfl) ?_
 refine F.qcn rfl (q_callF (xs := _) rfl ok105 rfl rfl (fun w hw => spec_l1In.ok h4 w )) ?_
 refine F.qn rfl (r_assign rfl) (F.nil (Nrm.seq (Tri.ret ?_)))
 cases h
 exact Rtn.body (.tmp rfl .nil) (fun w hw => ⟨rfl, hw.ext⟩)


def spec_l2Maze.l1 (k : Nat) (a0_0 : Int) (a0_2 : List Int) : Nat → Int → Option ((Unit) ⊕ (Bool))
 | 0, _ => none
 | n + 1, x5 => (if (decide (x5 < a0_0)) = true then (rdl a0_2 x5).bind fun t85 => (spec_l2Set.f k t85).bind fun t87 => (if (!t87) = true then some (Sum.inr false) else spec_l2Maze.l1 k a0_0 a0_2 n (w64 (x5 + 1))) else some (Sum.inl ()))

def spec_l2Maze.l0 (k : Nat) (a0_0 : Int) (a0_1 : List (Int × Int × Int)) : Nat → Int → Option ((Unit) ⊕ (Bool))
 | 0, _ => none
 | n + 1, x3 => (if (decide (x3 < (a0_1.length : Int))) = true then (rdl a0_1 x3).bind fun t34 => ((spec_l1In.f k t34.1 0 (w64 (a0_0 - 1))).bind fun t41 => (if (!t41) = true then some true else (spec_l1In.f k t34.2.1 (w64 (t34.1 + 1)) (w64 (a0_0 - 1))).bind fun t52 => (if (!t52) = true then some true else (spec_l2Set.f k t34.2.2).bind fun t58 => (if (!t58) = true then some true else (if (decide (x3 > 0)) = true then (rdl a0_1 (w64 (x3 - 1))).bind fun t69 => (spec_l2Before.f k t69.1 t69.2.1 t69.2.2 t34.1 t34.2.1 t34.2.2).bind fun t72 => some (!t72) else some false))))).bind fun y75 => (if y75 = true then some (Sum.inr false) else spec_l2Maze.l0 k a0_0 a0_1 n (w64 (x3 + 1))) else some (Sum.inl ()))

def spec_l2Maze.f (k : Nat) (a0_0 : Int) (a0_1 : List (Int × Int × Int)) (a0_2 : List Int) : Option (Bool) := ((spec_l1In.f k a0_0 1 12).bind fun t8 => (if (!t8) = true then some true else (if (decide ((a0_1.length : Int) > 30)) = true then some true else some ((a0_2.length : Int) != a0_0)))).bind fun y23 => (if y23 = true then some false else (spec_l2Maze.l0 k a0_0 a0_1 k 0).bind fun s => Lr s some fun _ => (spec_l2Maze.l1 k a0_0 a0_2 k 0).bind fun s => Lr s some fun _ => some true)

theorem spec_l2Maze.ok {k : Nat}  {a0_0 : Int} {a0_1 : List (Int × Int × Int)} {a0_2 : List Int} {r0 : Bool} (h : spec_l2Maze.f k a0_0 a0_1 a0_2 = some r0) (w : World) {va0_1 : Value} {va0_2 : Value} (hr_a0_1 : Rd w va0_1 a0_1) (hr_a0_2 : Rd w va0_2 a0_2) :
  Calls Try.prog 184 ([.agg ([.int .i64 a0_0, va0_1, va0_2].toArray)] : List Value).toArray w (fun e w' => e = .returned (.bool r0) ∧ Ext w w') := by
 unfold spec_l2Maze.f at h
 have hl_va0_1 := hr_a0_1.len
 have hl_va0_2 := hr_a0_2.len
 refine Calls.of_tri (N := 89) Try.func184 rfl rfl rfl (Sep.nil (M := noM)) ?_
 refine Tri.seq (Tri.reg (l := [0, 1]) rfl ?_)
 refine F.mn rfl (m_boxG rfl rfl) ?_
 rintro _ _ ⟨b1_1, rfl, rfl⟩
 refine F.qn rfl (r_assign rfl) (F.nil (Nrm.seq (Tri.seq (Tri.seq ?_))))
 obtain ⟨y23, hE_1, h⟩ := bind_some h
 refine Tri.cut (fun e' C' => e' = [(1, .pointer (some ⟨b1_1, 0, none⟩)), (23, .bool y23)] ∧ C' = Sep w noM [R.box b1_1 27 [.int .i64 a0_0, va0_1, va0_2]]) ?_ (fun hj_1 => ?_)
 ·rintro _ _ ⟨rfl, rfl⟩
  refine Nrm.seq (Tri.cond (b := y23) rfl (fun g_1 => ?_) (fun g_1 => ?_))
  ·replace h := if_tt g_1 h
   refine Tri.seq (Tri.reg (l := [0]) rfl ?_)
   refine F.qn rfl (r_assign rfl) (F.nil (Nrm.seq (Tri.ret ?_)))
   refine Rtn.then ?_
   cases h
   exact Rtn.body (.tmp rfl .nil) (fun w hw => ⟨rfl, hw.ext⟩)
  ·replace h := if_ff g_1 h
   refine Tri.skip (Nrm.seq (Tri.seq (Tri.seq (Tri.reg (l := [0]) rfl ?_))))
   refine F.qn rfl (r_assign rfl) (F.nil (Nrm.seq ?_))
   obtain ⟨s0, hE_2, h⟩ := bind_some h
   refine Tri.block ?_
   refine Tri.only [1, 3] rfl ?_
   refine Tri.pick [0] rfl rfl ?_
   refine Tri.rounds (fun n e' C' => ∃ (x3' : Int), spec_l2Maze.l0 k a0_0 a0_1 n x3' = some s0 ∧ e' = [(1, .pointer (some ⟨b1_1, 0, none⟩)), (3, .int .i64 x3')] ∧ C' = Sep w noM [R.box b1_1 27 [.int .i64 a0_0, va0_1, va0_2]]) k ?_ ?_ ?_
   ·exact ⟨0, hE_2, rfl, rfl⟩
   ·rintro _ _ ⟨_, hE_2, _⟩
    rw [spec_l2Maze.l0.eq_1] at hE_2; cases hE_2
   ·rintro n_1 _ _ ⟨x3, hE_2, rfl, rfl⟩ ih_1
    rw [spec_l2Maze.l0.eq_2] at hE_2
    refine Tri.seq (Tri.seq (Tri.reg (l := [0, 1, 2, 3, 4]) rfl ?_))
    refine F.qn rfl (r_move rfl) (F.qn rfl (r_fieldAddr tf27_1 rfl) (F.qn rfl (r_load ta24 rfl (fun w hw => cell_1 (box_cells (i := 0) rfl w hw) rfl)) (F.qn rfl (r_len Try.underlying24 rfl hl_va0_1) (F.qn rfl (r_lss rfl rfl) (F.nil (Nrm.seq (Tri.cond (b := decide (x3 < (a0_1.length : Int))) rfl (fun g_2 => ?_) (fun g_2 => ?_))))))))
    ·replace hE_2 := if_tt g_2 hE_2
     refine Tri.skip (Nrm.seq (Tri.seq (Tri.block ?_)))
     refine Tri.seq ?_
     obtain ⟨t34, h34, hE_2⟩ := bind_some hE_2
     refine Tri.reg (l := [0, 1, 2, 3, 4, 5, 6]) rfl ?_
     refine F.qn rfl (r_fieldAddr tf27_1 rfl) (F.qn rfl (r_load ta24 rfl (fun w hw => cell_1 (box_cells (i := 0) rfl w hw) rfl)) (F.qn rfl (r_move rfl) (F.qn rfl (r_indexAddrS Try.underlying24 ti121 rfl hl_va0_1 rfl (rdl_some h34).1 (rdl_some h34).2.1) (F.qn rfl (r_loadA ta121 ti121 rfl rfl (fun w hw => (Rd.flat ((fun _ hw => hr_a0_1.sep hw) w hw) (rdl_some h34).2.2))) ?_))))
     refine F.mn rfl (m_alloc ti121) ?_
     rintro _ _ ⟨b4_1, rfl, rfl⟩
     refine F.ef0 rfl rfl (wanted_none rfl) (d_storeG0 (i := 0) (cs2 := [.int .i64 t34.1, .int .i64 t34.2.1, .int .i64 t34.2.2]) ti121 rfl rfl rfl rfl rfl (Nat.le_of_ble_eq_true rfl) (lf_cons rfl (lf_cons rfl (lf_cons rfl lf_nil)))) ?_
     rintro _ _ ⟨rfl, rfl⟩
     refine F.nil (Nrm.seq (Tri.seq ?_))
     obtain ⟨y75, hE_3, hE_2⟩ := bind_some hE_2
     refine Tri.cut (fun e' C' => e' = [(1, .pointer (some ⟨b1_1, 0, none⟩)), (3, .int .i64 x3), (75, .bool y75)] ∧ C' = Sep w noM [R.box b1_1 27 [.int .i64 a0_0, va0_1, va0_2]]) ?_ (fun hj_2 => ?_)
     ·rintro _ _ ⟨rfl, rfl⟩
      refine Nrm.seq (Tri.cond (b := y75) rfl (fun g_3 => ?_) (fun g_3 => ?_))
      ·replace hE_2 := if_tt g_3 hE_2
       refine Tri.seq (Tri.reg (l := [0]) rfl ?_)
       refine F.qn rfl (r_assign rfl) (F.nil (Nrm.seq (Tri.ret ?_)))
       refine Rtn.block ?_
       refine Rtn.then ?_
       refine Rtn.then ?_
       refine Rtn.block ?_
       refine Rtn.then ?_
       cases hE_2
       replace h := Lr_inr h
       cases h
       exact Rtn.body (.tmp rfl .nil) (fun w hw => ⟨rfl, hw.ext⟩)
      ·replace hE_2 := if_ff g_3 hE_2
       refine Tri.skip (Nrm.block ?_)
       refine Nrm.seq (Tri.reg (l := [0, 1, 2]) rfl ?_)
       refine F.qn rfl (r_move rfl) (F.qn rfl (r_add rfl rfl) (F.qn rfl (r_assign rfl) (F.nil (Nrm.round ?_))))
       refine Rnd.only [1, 3] rfl ?_
       refine Rnd.pick [0] rfl rfl ?_
       exact ih_1 _ _ ⟨w64 (x3 + 1), hE_2, rfl, rfl⟩
     ·obtain ⟨t41, h41, hE_3⟩ := bind_some hE_3
      rcases Bool.eq_false_or_eq_true (!t41) with g43 | g43
      ·replace hE_3 := if_tt g43 hE_3
       refine Tri.drawA mixedT Sep.up [(0, true), (1, true), (2, true), (3, true), (4, true), (5, true), (6, true), (7, true), (8, true), (9, true), (10, true), (11, true), (12, true), (13, true), (14, true), (15, true), (16, true), (17, true), (18, true), (19, true), (20, true), (21, true), (22, true), (23, true), (24, true), (25, true), (26, true), (27, true), (28, true), (29, true), (30, true), (31, true), (32, true), (33, true), (34, true), (35, true), (36, true), (37, true), (38, true), (39, true)] [] (by kernel_rfl) ?_
       refine S.qn rfl (r_indexAddrA Try.underlying121 ti3 rfl rfl (by decide) (by decide)) (S.qn rfl (r_load ta3 rfl (fun w hw => cell_1 (box_cells (i := 0) rfl w hw) rfl)) (S.qn rfl (r_fieldAddr tf27_0 rfl) (S.qn rfl (r_load ta3 rfl (fun w hw => cell_1 (box_cells (i := 1) rfl w hw) rfl)) (S.qn rfl (r_sub rfl rfl) ?_))))
       refine S.qcn rfl (q_callF (xs := _) rfl ok105 rfl rfl (fun w hw => spec_l1In.ok h41 w )) ?_
       refine S.qn rfl (r_not rfl) (S.qn rfl (r_move rfl) ?_)
       iterate 10 refine S.skf rfl g43 ?_
       refine S.qn rfl (r_pick rfl rfl g43) (S.qn rfl (r_move rfl) ?_)
       iterate 4 refine S.skf rfl rfl ?_
       refine S.qn rfl (r_pick rfl rfl rfl) (S.qn rfl (r_move rfl) ?_)
       iterate 3 refine S.skf rfl rfl ?_
       iterate 9 refine S.sk rfl rfl rfl (wanted_undef rfl rfl rfl) ?_
       refine S.skf rfl rfl (S.qn rfl (r_pick rfl rfl rfl) (S.nil (F.nil ?_)))
       cases hE_3
       refine Nrm.only [1, 3, 75] rfl ?_
       refine Nrm.pick [1] rfl rfl ?_
       exact hj_2 _ _ ⟨rfl, rfl⟩
      ·replace hE_3 := if_ff g43 hE_3
       obtain ⟨t52, h52, hE_3⟩ := bind_some hE_3
       rcases Bool.eq_false_or_eq_true (!t52) with g55 | g55
       ·replace hE_3 := if_tt g55 hE_3
        refine Tri.drawA mixedT Sep.up [(0, true), (1, true), (2, true), (3, true), (4, true), (5, true), (6, true), (7, true), (8, true), (9, true), (10, true), (11, true), (12, true), (13, true), (14, true), (15, true), (16, true), (17, true), (18, true), (19, true), (20, true), (21, true), (22, true), (23, true), (24, true), (25, true), (26, true), (27, true), (28, true), (29, true), (30, true), (31, true), (32, true), (33, true), (34, true), (35, true), (36, true), (37, true), (38, true), (39, true)] [] (by kernel_rfl) ?_
        refine S.qn rfl (r_indexAddrA Try.underlying121 ti3 rfl rfl (by decide) (by decide)) (S.qn rfl (r_load ta3 rfl (fun w hw => cell_1 (box_cells (i := 0) rfl w hw) rfl)) (S.qn rfl (r_fieldAddr tf27_0 rfl) (S.qn rfl (r_load ta3 rfl (fun w hw => cell_1 (box_cells (i := 1) rfl w hw) rfl)) (S.qn rfl (r_sub rfl rfl) ?_))))
        refine S.qcn rfl (q_callF (xs := _) rfl ok105 rfl rfl (fun w hw => spec_l1In.ok h41 w )) ?_
        refine S.qn rfl (r_not rfl) (S.qn rfl (r_move rfl) (S.qg rfl g43 (r_indexAddrA Try.underlying121 ti3 rfl rfl (by decide) (by decide)) (S.qg rfl g43 (r_load ta3 rfl (fun w hw => cell_1 (box_cells (i := 0) rfl w hw) rfl)) ?_)))
        refine S.qg rfl g43 (r_indexAddrA Try.underlying121 ti3 rfl rfl (by decide) (by decide)) (S.qg rfl g43 (r_load ta3 rfl (fun w hw => cell_1 (box_cells (i := 0) rfl w hw) rfl)) (S.qg rfl g43 (r_add rfl rfl) (S.qg rfl g43 (r_fieldAddr tf27_0 rfl) (S.qg rfl g43 (r_load ta3 rfl (fun w hw => cell_1 (box_cells (i := 1) rfl w hw) rfl)) (S.qg rfl g43 (r_sub rfl rfl) ?_)))))
        refine S.qc rfl rfl rfl (wg rfl rfl rfl g43) (q_callF (xs := _) rfl ok105 rfl rfl (fun w hw => spec_l1In.ok h52 w )) ?_
        refine S.qg rfl g43 (r_not rfl) (S.qn rfl (r_pickf rfl rfl g43) (S.qn rfl (r_move rfl) ?_))
        iterate 4 refine S.skf rfl g55 ?_
        refine S.qn rfl (r_pick rfl rfl g55) (S.qn rfl (r_move rfl) ?_)
        iterate 3 refine S.skf rfl rfl ?_
        iterate 9 refine S.sk rfl rfl rfl (wanted_undef rfl rfl rfl) ?_
        refine S.skf rfl rfl (S.qn rfl (r_pick rfl rfl rfl) (S.nil (F.nil ?_)))
        cases hE_3
        refine Nrm.only [1, 3, 75] rfl ?_
        refine Nrm.pick [1] rfl rfl ?_
        exact hj_2 _ _ ⟨rfl, rfl⟩
       ·replace hE_3 := if_ff g55 hE_3
        obtain ⟨t58, h58, hE_3⟩ := bind_some hE_3
        rcases Bool.eq_false_or_eq_true (!t58) with g61 | g61
        ·replace hE_3 := if_tt g61 hE_3
         refine Tri.drawA mixedT Sep.up [(0, true), (1, true), (2, true), (3, true), (4, true), (5, true), (6, true), (7, true), (8, true), (9, true), (10, true), (11, true), (12, true), (13, true), (14, true), (15, true), (16, true), (17, true), (18, true), (19, true), (20, true), (21, true), (22, true), (23, true), (24, true), (25, true), (26, true), (27, true), (28, true), (29, true), (30, true), (31, true), (32, true), (33, true), (34, true), (35, true), (36, true), (37, true), (38, true), (39, true)] [] (by kernel_rfl) ?_
         refine S.qn rfl (r_indexAddrA Try.underlying121 ti3 rfl rfl (by decide) (by decide)) (S.qn rfl (r_load ta3 rfl (fun w hw => cell_1 (box_cells (i := 0) rfl w hw) rfl)) (S.qn rfl (r_fieldAddr tf27_0 rfl) (S.qn rfl (r_load ta3 rfl (fun w hw => cell_1 (box_cells (i := 1) rfl w hw) rfl)) (S.qn rfl (r_sub rfl rfl) ?_))))
         refine S.qcn rfl (q_callF (xs := _) rfl ok105 rfl rfl (fun w hw => spec_l1In.ok h41 w )) ?_
         refine S.qn rfl (r_not rfl) (S.qn rfl (r_move rfl) (S.qg rfl g43 (r_indexAddrA Try.underlying121 ti3 rfl rfl (by decide) (by decide)) (S.qg rfl g43 (r_load ta3 rfl (fun w hw => cell_1 (box_cells (i := 0) rfl w hw) rfl)) ?_)))
         refine S.qg rfl g43 (r_indexAddrA Try.underlying121 ti3 rfl rfl (by decide) (by decide)) (S.qg rfl g43 (r_load ta3 rfl (fun w hw => cell_1 (box_cells (i := 0) rfl w hw) rfl)) (S.qg rfl g43 (r_add rfl rfl) (S.qg rfl g43 (r_fieldAddr tf27_0 rfl) (S.qg rfl g43 (r_load ta3 rfl (fun w hw => cell_1 (box_cells (i := 1) rfl w hw) rfl)) (S.qg rfl g43 (r_sub rfl rfl) ?_)))))
         refine S.qc rfl rfl rfl (wg rfl rfl rfl g43) (q_callF (xs := _) rfl ok105 rfl rfl (fun w hw => spec_l1In.ok h52 w )) ?_
         refine S.qg rfl g43 (r_not rfl) (S.qn rfl (r_pickf rfl rfl g43) (S.qn rfl (r_move rfl) (S.qg rfl g55 (r_indexAddrA Try.underlying121 ti3 rfl rfl (by decide) (by decide)) (S.qg rfl g55 (r_load ta3 rfl (fun w hw => cell_1 (box_cells (i := 0) rfl w hw) rfl)) ?_))))
         refine S.qc rfl rfl rfl (wg rfl rfl rfl g55) (q_callF (xs := _) rfl ok92 rfl rfl (fun w hw => spec_l2Set.ok h58 w )) ?_
         refine S.qg rfl g55 (r_not rfl) (S.qn rfl (r_pickf rfl rfl g55) (S.qn rfl (r_move rfl) ?_))
         iterate 3 refine S.skf rfl g61 ?_
         iterate 9 refine S.sk rfl rfl rfl (wanted_undef rfl rfl rfl) ?_
         refine S.skf rfl g61 (S.qn rfl (r_pick rfl rfl g61) (S.nil (F.nil ?_)))
         cases hE_3
         refine Nrm.only [1, 3, 75] rfl ?_
         refine Nrm.pick [1] rfl rfl ?_
         exact hj_2 _ _ ⟨rfl, rfl⟩
        ·replace hE_3 := if_ff g61 hE_3
         rcases Bool.eq_false_or_eq_true (decide (x3 > 0)) with g64 | g64
         ·replace hE_3 := if_tt g64 hE_3
          obtain ⟨t69, h69, hE_3⟩ := bind_some hE_3
          obtain ⟨t72, h72, hE_3⟩ := bind_some hE_3
          refine Tri.drawA mixedT Sep.up [(0, true), (1, true), (2, true), (3, true), (4, true), (5, true), (6, true), (7, true), (8, true), (9, true), (10, true), (11, true), (12, true), (13, true), (14, true), (15, true), (16, true), (17, true), (18, true), (19, true), (20, true), (21, true), (22, true), (23, true), (24, true), (25, true), (26, true), (27, true), (28, true), (29, true), (30, true), (31, true), (32, true), (33, true), (34, true), (35, true), (36, true), (37, true), (38, true), (39, true)] [] (by kernel_rfl) ?_
          refine S.qn rfl (r_indexAddrA Try.underlying121 ti3 rfl rfl (by decide) (by decide)) (S.qn rfl (r_load ta3 rfl (fun w hw => cell_1 (box_cells (i := 0) rfl w hw) rfl)) (S.qn rfl (r_fieldAddr tf27_0 rfl) (S.qn rfl (r_load ta3 rfl (fun w hw => cell_1 (box_cells (i := 1) rfl w hw) rfl)) (S.qn rfl (r_sub rfl rfl) ?_))))
          refine S.qcn rfl (q_callF (xs := _) rfl ok105 rfl rfl (fun w hw => spec_l1In.ok h41 w )) ?_
          refine S.qn rfl (r_not rfl) (S.qn rfl (r_move rfl) (S.qg rfl g43 (r_indexAddrA Try.underlying121 ti3 rfl rfl (by decide) (by decide)) (S.qg rfl g43 (r_load ta3 rfl (fun w hw => cell_1 (box_cells (i := 0) rfl w hw) rfl)) ?_)))
          refine S.qg rfl g43 (r_indexAddrA Try.underlying121 ti3 rfl rfl (by decide) (by decide)) (S.qg rfl g43 (r_load ta3 rfl (fun w hw => cell_1 (box_cells (i := 0) rfl w hw) rfl)) (S.qg rfl g43 (r_add rfl rfl) (S.qg rfl g43 (r_fieldAddr tf27_0 rfl) (S.qg rfl g43 (r_load ta3 rfl (fun w hw => cell_1 (box_cells (i := 1) rfl w hw) rfl)) (S.qg rfl g43 (r_sub rfl rfl) ?_)))))
          refine S.qc rfl rfl rfl (wg rfl rfl rfl g43) (q_callF (xs := _) rfl ok105 rfl rfl (fun w hw => spec_l1In.ok h52 w )) ?_
          refine S.qg rfl g43 (r_not rfl) (S.qn rfl (r_pickf rfl rfl g43) (S.qn rfl (r_move rfl) (S.qg rfl g55 (r_indexAddrA Try.underlying121 ti3 rfl rfl (by decide) (by decide)) (S.qg rfl g55 (r_load ta3 rfl (fun w hw => cell_1 (box_cells (i := 0) rfl w hw) rfl)) ?_))))
          refine S.qc rfl rfl rfl (wg rfl rfl rfl g55) (q_callF (xs := _) rfl ok92 rfl rfl (fun w hw => spec_l2Set.ok h58 w )) ?_
          refine S.qg rfl g55 (r_not rfl) ?_
          refine S.qn rfl (r_pickf rfl rfl g55) (S.qn rfl (r_move rfl) (S.qg rfl g61 (r_move rfl) (S.qg rfl g61 (r_gtr rfl rfl) (S.qg rfl g61 (r_move rfl) (S.qg rfl g64 (r_fieldAddr tf27_1 rfl) ?_)))))
          refine S.qg rfl g64 (r_load ta24 rfl (fun w hw => cell_1 (box_cells (i := 1) rfl w hw) rfl)) (S.qg rfl g64 (r_move rfl) (S.qg rfl g64 (r_sub rfl rfl) (S.qg rfl g64 (r_indexAddrS Try.underlying24 ti121 rfl hl_va0_1 rfl (rdl_some h69).1 (rdl_some h69).2.1) (S.qg rfl g64 (r_loadA ta121 ti121 rfl rfl (fun w hw => (Rd.flat ((fun _ hw => hr_a0_1.sep hw) w hw) (rdl_some h69).2.2))) (S.qg rfl g64 (r_loadA ta121 ti121 rfl rfl (fun w hw => (box_cells (i := 0) rfl w hw))) ?_)))))
          refine S.qc rfl rfl rfl (wg rfl rfl rfl g64) (q_callF (xs := _) rfl ok213 rfl rfl (fun w hw => spec_l2Before.ok h72 w )) ?_
          refine S.qg rfl g64 (r_not rfl) (S.qg rfl g61 (r_pick rfl rfl g64) (S.qn rfl (r_pickf rfl rfl g61) (S.nil (F.nil ?_))))
          cases hE_3
          refine Nrm.only [1, 3, 75] rfl ?_
          refine Nrm.pick [1] rfl rfl ?_
          exact hj_2 _ _ ⟨rfl, rfl⟩
         ·replace hE_3 := if_ff g64 hE_3
          refine Tri.drawA mixedT Sep.up [(0, true), (1, true), (2, true), (3, true), (4, true), (5, true), (6, true), (7, true), (8, true), (9, true), (10, true), (11, true), (12, true), (13, true), (14, true), (15, true), (16, true), (17, true), (18, true), (19, true), (20, true), (21, true), (22, true), (23, true), (24, true), (25, true), (26, true), (27, true), (28, true), (29, true), (30, true), (31, true), (32, true), (33, true), (34, true), (35, true), (36, true), (37, true), (38, true), (39, true)] [] (by kernel_rfl) ?_
          refine S.qn rfl (r_indexAddrA Try.underlying121 ti3 rfl rfl (by decide) (by decide)) (S.qn rfl (r_load ta3 rfl (fun w hw => cell_1 (box_cells (i := 0) rfl w hw) rfl)) (S.qn rfl (r_fieldAddr tf27_0 rfl) (S.qn rfl (r_load ta3 rfl (fun w hw => cell_1 (box_cells (i := 1) rfl w hw) rfl)) (S.qn rfl (r_sub rfl rfl) ?_))))
          refine S.qcn rfl (q_callF (xs := _) rfl ok105 rfl rfl (fun w hw => spec_l1In.ok h41 w )) ?_
          refine S.qn rfl (r_not rfl) (S.qn rfl (r_move rfl) (S.qg rfl g43 (r_indexAddrA Try.underlying121 ti3 rfl rfl (by decide) (by decide)) (S.qg rfl g43 (r_load ta3 rfl (fun w hw => cell_1 (box_cells (i := 0) rfl w hw) rfl)) ?_)))
          refine S.qg rfl g43 (r_indexAddrA Try.underlying121 ti3 rfl rfl (by decide) (by decide)) (S.qg rfl g43 (r_load ta3 rfl (fun w hw => cell_1 (box_cells (i := 0) rfl w hw) rfl)) (S.qg rfl g43 (r_add rfl rfl) (S.qg rfl g43 (r_fieldAddr tf27_0 rfl) (S.qg rfl g43 (r_load ta3 rfl (fun w hw => cell_1 (box_cells (i := 1) rfl w hw) rfl)) (S.qg rfl g43 (r_sub rfl rfl) ?_)))))
          refine S.qc rfl rfl rfl (wg rfl rfl rfl g43) (q_callF (xs := _) rfl ok105 rfl rfl (fun w hw => spec_l1In.ok h52 w )) ?_
          refine S.qg rfl g43 (r_not rfl) (S.qn rfl (r_pickf rfl rfl g43) (S.qn rfl (r_move rfl) (S.qg rfl g55 (r_indexAddrA Try.underlying121 ti3 rfl rfl (by decide) (by decide)) (S.qg rfl g55 (r_load ta3 rfl (fun w hw => cell_1 (box_cells (i := 0) rfl w hw) rfl)) ?_))))
          refine S.qc rfl rfl rfl (wg rfl rfl rfl g55) (q_callF (xs := _) rfl ok92 rfl rfl (fun w hw => spec_l2Set.ok h58 w )) ?_
          refine S.qg rfl g55 (r_not rfl) (S.qn rfl (r_pickf rfl rfl g55) (S.qn rfl (r_move rfl) (S.qg rfl g61 (r_move rfl) (S.qg rfl g61 (r_gtr rfl rfl) (S.qg rfl g61 (r_move rfl) ?_)))))
          iterate 9 refine S.skf rfl g64 ?_
          refine S.qg rfl g61 (r_pickf rfl rfl g64) (S.qn rfl (r_pickf rfl rfl g61) (S.nil (F.nil ?_)))
          cases hE_3
          refine Nrm.only [1, 3, 75] rfl ?_
          refine Nrm.pick [1] rfl rfl ?_
          exact hj_2 _ _ ⟨rfl, rfl⟩
    ·replace hE_2 := if_ff g_2 hE_2
     refine Tri.exit ?_
     refine Exi.then ?_
     refine Exi.then ?_
     refine Exi.same ?_
     cases hE_2
     replace h := Lr_inl h
     refine Nrm.seq (Tri.seq (Tri.seq (Tri.reg (l := [0]) rfl ?_)))
     refine F.qn rfl (r_assign rfl) (F.nil (Nrm.seq ?_))
     obtain ⟨s1, hE_4, h⟩ := bind_some h
     refine Tri.block ?_
     refine Tri.only [1, 5] rfl ?_
     refine Tri.pick [0] rfl rfl ?_
     refine Tri.rounds (fun n e' C' => ∃ (x5' : Int), spec_l2Maze.l1 k a0_0 a0_2 n x5' = some s1 ∧ e' = [(1, .pointer (some ⟨b1_1, 0, none⟩)), (5, .int .i64 x5')] ∧ C' = Sep w noM [R.box b1_1 27 [.int .i64 a0_0, va0_1, va0_2]]) k ?_ ?_ ?_
     ·exact ⟨0, hE_4, rfl, rfl⟩
     ·rintro _ _ ⟨_, hE_4, _⟩
      rw [spec_l2Maze.l1.eq_1] at hE_4; cases hE_4
     ·rintro n_2 _ _ ⟨x5, hE_4, rfl, rfl⟩ ih_2
      rw [spec_l2Maze.l1.eq_2] at hE_4
      refine Tri.seq (Tri.seq (Tri.reg (l := [0, 1, 2, 3]) rfl ?_))
      refine F.qn rfl (r_move rfl) (F.qn rfl (r_fieldAddr tf27_0 rfl) (F.qn rfl (r_load ta3 rfl (fun w hw => cell_1 (box_cells (i := 0) rfl w hw) rfl)) (F.qn rfl (r_lss rfl rfl) (F.nil (Nrm.seq (Tri.cond (b := decide (x5 < a0_0)) rfl (fun g_4 => ?_) (fun g_4 => ?_)))))))
      ·replace hE_4 := if_tt g_4 hE_4
       refine Tri.skip (Nrm.seq (Tri.seq (Tri.block ?_)))
       refine Tri.seq ?_
       obtain ⟨t85, h85, hE_4⟩ := bind_some hE_4
       obtain ⟨t87, h87, hE_4⟩ := bind_some hE_4
       refine Tri.reg (l := [0, 1, 2, 3, 4, 5, 6]) rfl ?_
       refine F.qn rfl (r_fieldAddr tf27_2 rfl) (F.qn rfl (r_load ta25 rfl (fun w hw => cell_1 (box_cells (i := 0) rfl w hw) rfl)) (F.qn rfl (r_move rfl) (F.qn rfl (r_indexAddrS Try.underlying25 ti3 rfl hl_va0_2 rfl (rdl_some h85).1 (rdl_some h85).2.1) (F.qn rfl (r_load ta3 rfl (fun w hw => cell_0 (Rd.flat ((fun _ hw => hr_a0_2.sep hw) w hw) (rdl_some h85).2.2) rfl)) ?_))))
       refine F.qcn rfl (q_callF (xs := _) rfl ok92 rfl rfl (fun w hw => spec_l2Set.ok h87 w )) ?_
       refine F.qn rfl (r_not rfl) (F.nil (Nrm.seq (Tri.cond (b := !t87) rfl (fun g_5 => ?_) (fun g_5 => ?_))))
       ·replace hE_4 := if_tt g_5 hE_4
        refine Tri.seq (Tri.reg (l := [0]) rfl ?_)
        refine F.qn rfl (r_assign rfl) (F.nil (Nrm.seq (Tri.ret ?_)))
        refine Rtn.block ?_
        refine Rtn.then ?_
        refine Rtn.then ?_
        refine Rtn.block ?_
        refine Rtn.then ?_
        cases hE_4
        replace h := Lr_inr h
        cases h
        exact Rtn.body (.tmp rfl .nil) (fun w hw => ⟨rfl, hw.ext⟩)
       ·replace hE_4 := if_ff g_5 hE_4
        refine Tri.skip (Nrm.block ?_)
        refine Nrm.seq (Tri.reg (l := [0, 1, 2]) rfl ?_)
        refine F.qn rfl (r_move rfl) (F.qn rfl (r_add rfl rfl) (F.qn rfl (r_assign rfl) (F.nil (Nrm.round ?_))))
        refine Rnd.only [1, 5] rfl ?_
        refine Rnd.pick [0] rfl rfl ?_
        exact ih_2 _ _ ⟨w64 (x5 + 1), hE_4, rfl, rfl⟩
      ·replace hE_4 := if_ff g_4 hE_4
       refine Tri.exit ?_
       refine Exi.then ?_
       refine Exi.then ?_
       refine Exi.same ?_
       cases hE_4
       replace h := Lr_inl h
       refine Nrm.seq (Tri.seq (Tri.reg (l := [0]) rfl ?_))
       refine F.qn rfl (r_assign rfl) (F.nil (Nrm.seq (Tri.ret ?_)))
       cases h
       exact Rtn.body (.tmp rfl .nil) (fun w hw => ⟨rfl, hw.ext⟩)
 ·obtain ⟨t8, h8, hE_1⟩ := bind_some hE_1
  rcases Bool.eq_false_or_eq_true (!t8) with g10 | g10
  ·replace hE_1 := if_tt g10 hE_1
   refine Tri.reg (l := List.range 18) rfl ?_
   refine F.qn rfl (r_fieldAddr tf27_0 rfl) (F.qn rfl (r_load ta3 rfl (fun w hw => cell_1 (box_cells (i := 0) rfl w hw) rfl)) ?_)
   refine F.qcn rfl (q_callF (xs := _) rfl ok105 rfl rfl (fun w hw => spec_l1In.ok h8 w )) ?_
   refine F.qn rfl (r_not rfl) (F.qn rfl (r_move rfl) ?_)
   iterate 4 refine F.skf rfl g10 ?_
   refine F.qn rfl (r_pick rfl rfl g10) (F.qn rfl (r_move rfl) ?_)
   iterate 6 refine F.skf rfl rfl ?_
   refine F.qn rfl (r_pick rfl rfl rfl) (F.nil ?_)
   cases hE_1
   refine Nrm.only [1, 23] rfl ?_
   refine Nrm.pick [0] rfl rfl ?_
   exact hj_1 _ _ ⟨rfl, rfl⟩
  ·replace hE_1 := if_ff g10 hE_1
   rcases Bool.eq_false_or_eq_true (decide ((a0_1.length : Int) > 30)) with g16 | g16
   ·replace hE_1 := if_tt g16 hE_1
    refine Tri.reg (l := List.range 18) rfl ?_
    refine F.qn rfl (r_fieldAddr tf27_0 rfl) (F.qn rfl (r_load ta3 rfl (fun w hw => cell_1 (box_cells (i := 0) rfl w hw) rfl)) ?_)
    refine F.qcn rfl (q_callF (xs := _) rfl ok105 rfl rfl (fun w hw => spec_l1In.ok h8 w )) ?_
    refine F.qn rfl (r_not rfl) (F.qn rfl (r_move rfl) ?_)
    refine F.qg rfl g10 (r_fieldAddr tf27_1 rfl) (F.qg rfl g10 (r_load ta24 rfl (fun w hw => cell_1 (box_cells (i := 0) rfl w hw) rfl)) (F.qg rfl g10 (r_len Try.underlying24 rfl hl_va0_1) (F.qg rfl g10 (r_gtr rfl rfl) (F.qn rfl (r_pickf rfl rfl g10) (F.qn rfl (r_move rfl) ?_)))))
    iterate 6 refine F.skf rfl g16 ?_
    refine F.qn rfl (r_pick rfl rfl g16) (F.nil ?_)
    cases hE_1
    refine Nrm.only [1, 23] rfl ?_
    refine Nrm.pick [0] rfl rfl ?_
    exact hj_1 _ _ ⟨rfl, rfl⟩
   ·replace hE_1 := if_ff g16 hE_1
    refine Tri.reg (l := List.range 18) rfl ?_
    refine F.qn rfl (r_fieldAddr tf27_0 rfl) (F.qn rfl (r_load ta3 rfl (fun w hw => cell_1 (box_cells (i := 0) rfl w hw) rfl)) ?_)
    refine F.qcn rfl (q_callF (xs := _) rfl ok105 rfl rfl (fun w hw => spec_l1In.ok h8 w )) ?_
    refine F.qn rfl (r_not rfl) (F.qn rfl (r_move rfl) (F.qg rfl g10 (r_fieldAddr tf27_1 rfl) ?_))
    refine F.qg rfl g10 (r_load ta24 rfl (fun w hw => cell_1 (box_cells (i := 0) rfl w hw) rfl)) (F.qg rfl g10 (r_len Try.underlying24 rfl hl_va0_1) (F.qg rfl g10 (r_gtr rfl rfl) (F.qn rfl (r_pickf rfl rfl g10) (F.qn rfl (r_move rfl) (F.qg rfl g16 (r_fieldAddr tf27_2 rfl) ?_)))))
    refine F.qg rfl g16 (r_load ta25 rfl (fun w hw => cell_1 (box_cells (i := 0) rfl w hw) rfl)) (F.qg rfl g16 (r_len Try.underlying25 rfl hl_va0_2) (F.qg rfl g16 (r_fieldAddr tf27_0 rfl) (F.qg rfl g16 (r_load ta3 rfl (fun w hw => cell_1 (box_cells (i := 0) rfl w hw) rfl)) (F.qg rfl g16 (r_neq rfl rfl) (F.qn rfl (r_pickf rfl rfl g16) (F.nil ?_))))))
    cases hE_1
    refine Nrm.only [1, 23] rfl ?_
    refine Nrm.pick [0] rfl rfl ?_
    exact hj_1 _ _ ⟨rfl, rfl⟩


def spec_l10Worlds.l1 (k : Nat) (a0_0 : List (Int × List (Int × Int × Int) × List Int)) (a0_1 : List (List Int)) (x3 : Int) : Nat → Int → Option ((Unit) ⊕ (Bool))
 | 0, _ => none
 | n + 1, x4 => (rdl a0_1 x3).bind fun t52 => (if (decide (x4 < (t52.length : Int))) = true then (rdl a0_1 x3).bind fun t61 => (rdl t61 x4).bind fun t64 => (spec_l1In.f k t64 0 (w64 ((a0_0.length : Int) - 1))).bind fun t70 => (if (!t70) = true then some (Sum.inr false) else spec_l10Worlds.l1 k a0_0 a0_1 x3 n (w64 (x4 + 1))) else some (Sum.inl ()))

def spec_l10Worlds.l0 (k : Nat) (a0_0 : List (Int × List (Int × Int × Int) × List Int)) (a0_1 : List (List Int)) : Nat → Int → Option ((Unit) ⊕ (Bool))
 | 0, _ => none
 | n + 1, x3 => (if (decide (x3 < (a0_0.length : Int))) = true then ((rdl a0_0 x3).bind fun t29 => (spec_l2Maze.f k t29.1 t29.2.1 t29.2.2).bind fun t31 => (if (!t31) = true then some true else (rdl a0_1 x3).bind fun t37 => (rdl a0_0 x3).bind fun t43 => some ((t37.length : Int) != t43.1))).bind fun y47 => (if y47 = true then some (Sum.inr false) else (spec_l10Worlds.l1 k a0_0 a0_1 x3 k 0).bind fun s => Lr s (fun r => some (Sum.inr r)) fun _ => spec_l10Worlds.l0 k a0_0 a0_1 n (w64 (x3 + 1))) else some (Sum.inl ()))

def spec_l10Worlds.f (k : Nat) (a0_0 : List (Int × List (Int × Int × Int) × List Int)) (a0_1 : List (List Int)) : Option (Bool) := ((spec_l1In.f k (a0_0.length : Int) 1 3).bind fun t8 => (if (!t8) = true then some true else some ((a0_1.length : Int) != (a0_0.length : Int)))).bind fun y18 => (if y18 = true then some false else (spec_l10Worlds.l0 k a0_0 a0_1 k 0).bind fun s => Lr s some fun _ => some true)

theorem spec_l10Worlds.ok {k : Nat}  {a0_0 : List (Int × List (Int × Int × Int) × List Int)} {a0_1 : List (List Int)} {r0 : Bool} (h : spec_l10Worlds.f k a0_0 a0_1 = some r0) (w : World) {va0_0 : Value} {va0_1 : Value} (hr_a0_0 : Rd w va0_0 a0_0) (hr_a0_1 : Rd w va0_1 a0_1) :
  Calls Try.prog 147 ([.agg ([va0_0, va0_1].toArray)] : List Value).toArray w (fun e w' => e = .returned (.bool r0) ∧ Ext w w') := by
 unfold spec_l10Worlds.f at h
 have hl_va0_0 := hr_a0_0.len
 have hl_va0_1 := hr_a0_1.len
 refine Calls.of_tri (N := 72) Try.func147 rfl rfl rfl (Sep.nil (M := noM)) ?_
 refine Tri.seq (Tri.reg (l := [0, 1]) rfl ?_)
 refine F.mn rfl (m_boxG rfl rfl) ?_
 rintro _ _ ⟨b1_1, rfl, rfl⟩
 refine F.qn rfl (r_assign rfl) (F.nil (Nrm.seq (Tri.seq (Tri.seq ?_))))
 obtain ⟨y18, hE_1, h⟩ := bind_some h
 refine Tri.cut (fun e' C' => e' = [(1, .pointer (some ⟨b1_1, 0, none⟩)), (18, .bool y18)] ∧ C' = Sep w noM [R.box b1_1 85 [va0_0, va0_1]]) ?_ (fun hj_1 => ?_)
 ·rintro _ _ ⟨rfl, rfl⟩
  refine Nrm.seq (Tri.cond (b := y18) rfl (fun g_1 => ?_) (fun g_1 => ?_))
  ·replace h := if_tt g_1 h
   refine Tri.seq (Tri.reg (l := [0]) rfl ?_)
   refine F.qn rfl (r_assign rfl) (F.nil (Nrm.seq (Tri.ret ?_)))
   refine Rtn.then ?_
   cases h
   exact Rtn.body (.tmp rfl .nil) (fun w hw => ⟨rfl, hw.ext⟩)
  ·replace h := if_ff g_1 h
   refine Tri.skip (Nrm.seq (Tri.seq (Tri.seq (Tri.reg (l := [0]) rfl ?_))))
   refine F.qn rfl (r_assign rfl) (F.nil (Nrm.seq ?_))
   obtain ⟨s0, hE_2, h⟩ := bind_some h
   refine Tri.block ?_
   refine Tri.only [1, 3] rfl ?_
   refine Tri.pick [0] rfl rfl ?_
   refine Tri.rounds (fun n e' C' => ∃ (x3' : Int), spec_l10Worlds.l0 k a0_0 a0_1 n x3' = some s0 ∧ e' = [(1, .pointer (some ⟨b1_1, 0, none⟩)), (3, .int .i64 x3')] ∧ C' = Sep w noM [R.box b1_1 85 [va0_0, va0_1]]) k ?_ ?_ ?_
   ·exact ⟨0, hE_2, rfl, rfl⟩
   ·rintro _ _ ⟨_, hE_2, _⟩
    rw [spec_l10Worlds.l0.eq_1] at hE_2; cases hE_2
   ·rintro n_1 _ _ ⟨x3, hE_2, rfl, rfl⟩ ih_1
    rw [spec_l10Worlds.l0.eq_2] at hE_2
    refine Tri.seq (Tri.seq (Tri.reg (l := [0, 1, 2, 3, 4]) rfl ?_))
    refine F.qn rfl (r_move rfl) (F.qn rfl (r_fieldAddr tf85_0 rfl) (F.qn rfl (r_load ta82 rfl (fun w hw => cell_1 (box_cells (i := 0) rfl w hw) rfl)) (F.qn rfl (r_len Try.underlying82 rfl hl_va0_0) (F.qn rfl (r_lss rfl rfl) (F.nil (Nrm.seq (Tri.cond (b := decide (x3 < (a0_0.length : Int))) rfl (fun g_2 => ?_) (fun g_2 => ?_))))))))
    ·replace hE_2 := if_tt g_2 hE_2
     refine Tri.skip (Nrm.seq (Tri.seq (Tri.block ?_)))
     refine Tri.seq (Tri.seq ?_)
     obtain ⟨y47, hE_3, hE_2⟩ := bind_some hE_2
     refine Tri.cut (fun e' C' => e' = [(1, .pointer (some ⟨b1_1, 0, none⟩)), (3, .int .i64 x3), (47, .bool y47)] ∧ C' = Sep w noM [R.box b1_1 85 [va0_0, va0_1]]) ?_ (fun hj_2 => ?_)
     ·rintro _ _ ⟨rfl, rfl⟩
      refine Nrm.seq (Tri.cond (b := y47) rfl (fun g_3 => ?_) (fun g_3 => ?_))
      ·replace hE_2 := if_tt g_3 hE_2
       refine Tri.seq (Tri.reg (l := [0]) rfl ?_)
       refine F.qn rfl (r_assign rfl) (F.nil (Nrm.seq (Tri.ret ?_)))
       refine Rtn.then ?_
       refine Rtn.block ?_
       refine Rtn.then ?_
       refine Rtn.then ?_
       refine Rtn.block ?_
       refine Rtn.then ?_
       cases hE_2
       replace h := Lr_inr h
       cases h
       exact Rtn.body (.tmp rfl .nil) (fun w hw => ⟨rfl, hw.ext⟩)
      ·replace hE_2 := if_ff g_3 hE_2
       refine Tri.skip (Nrm.seq (Tri.seq (Tri.reg (l := [0]) rfl ?_)))
       refine F.qn rfl (r_assign rfl) (F.nil (Nrm.seq ?_))
       obtain ⟨s1, hE_4, hE_2⟩ := bind_some hE_2
       refine Tri.block ?_
       refine Tri.only [1, 3, 4] rfl ?_
       refine Tri.pick [0] rfl rfl ?_
       refine Tri.rounds (fun n e' C' => ∃ (x4' : Int), spec_l10Worlds.l1 k a0_0 a0_1 x3 n x4' = some s1 ∧ e' = [(1, .pointer (some ⟨b1_1, 0, none⟩)), (3, .int .i64 x3), (4, .int .i64 x4')] ∧ C' = Sep w noM [R.box b1_1 85 [va0_0, va0_1]]) k ?_ ?_ ?_
       ·exact ⟨0, hE_4, rfl, rfl⟩
       ·rintro _ _ ⟨_, hE_4, _⟩
        rw [spec_l10Worlds.l1.eq_1] at hE_4; cases hE_4
       ·rintro n_2 _ _ ⟨x4, hE_4, rfl, rfl⟩ ih_2
        rw [spec_l10Worlds.l1.eq_2] at hE_4
        refine Tri.seq (Tri.seq ?_)
        obtain ⟨t52, h52, hE_4⟩ := bind_some hE_4
        obtain ⟨_, hc52, hp52⟩ := Rd.elem hr_a0_1 (rdl_some h52).2.2
        obtain ⟨v52_0, rfl, hr_v52_0⟩ := op25 hp52
        have hl_v52_0 := hr_v52_0.len
        refine Tri.reg (l := [0, 1, 2, 3, 4, 5, 6, 7]) rfl ?_
        refine F.qn rfl (r_move rfl) (F.qn rfl (r_fieldAddr tf85_1 rfl) ?_)
        refine F.qn rfl (r_load ta83 rfl (fun w hw => cell_1 (box_cells (i := 0) rfl w hw) rfl)) (F.qn rfl (r_move rfl) (F.qn rfl (r_indexAddrS Try.underlying83 ti25 rfl hl_va0_1 rfl (rdl_some h52).1 (rdl_some h52).2.1) (F.qn rfl (r_load ta25 rfl (fun w hw => cell_0 (hc52.sep hw) rfl)) (F.qn rfl (r_len Try.underlying25 rfl hl_v52_0) (F.qn rfl (r_lss rfl rfl) (F.nil (Nrm.seq (Tri.cond (b := decide (x4 < (t52.length : Int))) rfl (fun g_4 => ?_) (fun g_4 => ?_)))))))))
        ·replace hE_4 := if_tt g_4 hE_4
         refine Tri.skip (Nrm.seq (Tri.seq (Tri.block ?_)))
         refine Tri.seq ?_
         obtain ⟨t61, h61, hE_4⟩ := bind_some hE_4
         obtain ⟨_, hc61, hp61⟩ := Rd.elem hr_a0_1 (rdl_some h61).2.2
         obtain ⟨v61_0, rfl, hr_v61_0⟩ := op25 hp61
         have hl_v61_0 := hr_v61_0.len
         obtain ⟨t64, h64, hE_4⟩ := bind_some hE_4
         obtain ⟨t70, h70, hE_4⟩ := bind_some hE_4
         refine Tri.drawA mixedT Sep.up [(0, true), (1, true), (2, true), (3, true), (4, true), (5, true), (6, true), (7, true), (8, true), (9, true), (10, true), (11, true), (12, true), (13, true)] [] (by kernel_rfl) ?_
         refine S.qn rfl (r_fieldAddr tf85_1 rfl) (S.qn rfl (r_load ta83 rfl (fun w hw => cell_1 (box_cells (i := 0) rfl w hw) rfl)) (S.qn rfl (r_move rfl) (S.qn rfl (r_indexAddrS Try.underlying83 ti25 rfl hl_va0_1 rfl (rdl_some h61).1 (rdl_some h61).2.1) (S.qn rfl (r_load ta25 rfl (fun w hw => cell_0 (hc61.sep hw) rfl)) (S.qn rfl (r_move rfl) ?_)))))
         refine S.qn rfl (r_indexAddrS Try.underlying25 ti3 rfl hl_v61_0 rfl (rdl_some h64).1 (rdl_some h64).2.1) (S.qn rfl (r_load ta3 rfl (fun w hw => cell_0 (Rd.flat ((fun _ hw => hr_v61_0.sep hw) w hw) (rdl_some h64).2.2) rfl)) (S.qn rfl (r_fieldAddr tf85_0 rfl) (S.qn rfl (r_load ta82 rfl (fun w hw => cell_1 (box_cells (i := 0) rfl w hw) rfl)) (S.qn rfl (r_len Try.underlying82 rfl hl_va0_0) (S.qn rfl (r_sub rfl rfl) ?_)))))
         refine S.qcn rfl (q_callF (xs := _) rfl ok105 rfl rfl (fun w hw => spec_l1In.ok h70 w )) ?_
         refine S.qn rfl (r_not rfl) (S.nil (F.nil (Nrm.seq (Tri.cond (b := !t70) rfl (fun g_5 => ?_) (fun g_5 => ?_)))))
         ·replace hE_4 := if_tt g_5 hE_4
          refine Tri.seq (Tri.reg (l := [0]) rfl ?_)
          refine F.qn rfl (r_assign rfl) (F.nil (Nrm.seq (Tri.ret ?_)))
          refine Rtn.block ?_
          refine Rtn.then ?_
          refine Rtn.then ?_
          refine Rtn.block ?_
          refine Rtn.block ?_
          refine Rtn.then ?_
          refine Rtn.then ?_
          refine Rtn.block ?_
          refine Rtn.then ?_
          cases hE_4
          replace hE_2 := Lr_inr hE_2
          cases hE_2
          replace h := Lr_inr h
          cases h
          exact Rtn.body (.tmp rfl .nil) (fun w hw => ⟨rfl, hw.ext⟩)
         ·replace hE_4 := if_ff g_5 hE_4
          refine Tri.skip (Nrm.block ?_)
          refine Nrm.seq (Tri.reg (l := [0, 1, 2]) rfl ?_)
          refine F.qn rfl (r_move rfl) (F.qn rfl (r_add rfl rfl) (F.qn rfl (r_assign rfl) (F.nil (Nrm.round ?_))))
          refine Rnd.only [1, 3, 4] rfl ?_
          refine Rnd.pick [0] rfl rfl ?_
          exact ih_2 _ _ ⟨w64 (x4 + 1), hE_4, rfl, rfl⟩
        ·replace hE_4 := if_ff g_4 hE_4
         refine Tri.exit ?_
         refine Exi.then ?_
         refine Exi.then ?_
         refine Exi.same ?_
         cases hE_4
         replace hE_2 := Lr_inl hE_2
         refine Nrm.block ?_
         refine Nrm.seq (Tri.reg (l := [0, 1, 2]) rfl ?_)
         refine F.qn rfl (r_move rfl) (F.qn rfl (r_add rfl rfl) (F.qn rfl (r_assign rfl) (F.nil (Nrm.round ?_))))
         refine Rnd.only [1, 3] rfl ?_
         refine Rnd.pick [0] rfl rfl ?_
         exact ih_1 _ _ ⟨w64 (x3 + 1), hE_2, rfl, rfl⟩
     ·obtain ⟨t29, h29, hE_3⟩ := bind_some hE_3
      obtain ⟨_, hc29, hp29⟩ := Rd.elem hr_a0_0 (rdl_some h29).2.2
      obtain ⟨v29_1, v29_2, rfl, hr_v29_1, hr_v29_2⟩ := op27 hp29
      have hl_v29_1 := hr_v29_1.len
      have hl_v29_2 := hr_v29_2.len
      obtain ⟨t31, h31, hE_3⟩ := bind_some hE_3
      rcases Bool.eq_false_or_eq_true (!t31) with g33 | g33
      ·replace hE_3 := if_tt g33 hE_3
       refine Tri.drawA mixedT Sep.up [(0, true), (1, true), (2, true), (3, true), (4, true), (5, true), (6, true), (7, true), (8, true), (9, true), (10, true), (11, true), (12, true), (13, true), (14, true), (15, true), (16, true), (17, true), (18, true), (19, true), (20, true), (21, true)] [] (by kernel_rfl) ?_
       refine S.qn rfl (r_fieldAddr tf85_0 rfl) (S.qn rfl (r_load ta82 rfl (fun w hw => cell_1 (box_cells (i := 0) rfl w hw) rfl)) (S.qn rfl (r_move rfl) (S.qn rfl (r_indexAddrS Try.underlying82 ti27 rfl hl_va0_0 rfl (rdl_some h29).1 (rdl_some h29).2.1) (S.qn rfl (r_loadA ta27 ti27 rfl rfl (fun w hw => (hc29.sep hw))) ?_))))
       refine S.qcn rfl (q_callF (xs := _) rfl ok184 rfl rfl (fun w hw => spec_l2Maze.ok h31 w ((fun _ hw => hr_v29_1.sep hw) w hw) ((fun _ hw => hr_v29_2.sep hw) w hw))) ?_
       refine S.qn rfl (r_not rfl) (S.qn rfl (r_move rfl) ?_)
       iterate 13 refine S.skf rfl g33 ?_
       refine S.qn rfl (r_pick rfl rfl g33) (S.nil (F.nil ?_))
       cases hE_3
       refine Nrm.only [1, 3, 47] rfl ?_
       refine Nrm.pick [0] rfl rfl ?_
       exact hj_2 _ _ ⟨rfl, rfl⟩
      ·replace hE_3 := if_ff g33 hE_3
       obtain ⟨t37, h37, hE_3⟩ := bind_some hE_3
       obtain ⟨_, hc37, hp37⟩ := Rd.elem hr_a0_1 (rdl_some h37).2.2
       obtain ⟨v37_0, rfl, hr_v37_0⟩ := op25 hp37
       have hl_v37_0 := hr_v37_0.len
       obtain ⟨t43, h43, hE_3⟩ := bind_some hE_3
       obtain ⟨_, hc43, hp43⟩ := Rd.elem hr_a0_0 (rdl_some h43).2.2
       obtain ⟨v43_1, v43_2, rfl, hr_v43_1, hr_v43_2⟩ := op27 hp43
       have hl_v43_1 := hr_v43_1.len
       have hl_v43_2 := hr_v43_2.len
       refine Tri.drawA mixedT Sep.up [(0, true), (1, true), (2, true), (3, true), (4, true), (5, true), (6, true), (7, true), (8, true), (9, true), (10, true), (11, true), (12, true), (13, true), (14, true), (15, true), (16, true), (17, true), (18, true), (19, true), (20, true), (21, true)] [] (by kernel_rfl) ?_
       refine S.qn rfl (r_fieldAddr tf85_0 rfl) (S.qn rfl (r_load ta82 rfl (fun w hw => cell_1 (box_cells (i := 0) rfl w hw) rfl)) (S.qn rfl (r_move rfl) (S.qn rfl (r_indexAddrS Try.underlying82 ti27 rfl hl_va0_0 rfl (rdl_some h29).1 (rdl_some h29).2.1) (S.qn rfl (r_loadA ta27 ti27 rfl rfl (fun w hw => (hc29.sep hw))) ?_))))
       refine S.qcn rfl (q_callF (xs := _) rfl ok184 rfl rfl (fun w hw => spec_l2Maze.ok h31 w ((fun _ hw => hr_v29_1.sep hw) w hw) ((fun _ hw => hr_v29_2.sep hw) w hw))) ?_
       refine S.qn rfl (r_not rfl) (S.qn rfl (r_move rfl) (S.qg rfl g33 (r_fieldAddr tf85_1 rfl) (S.qg rfl g33 (r_load ta83 rfl (fun w hw => cell_1 (box_cells (i := 0) rfl w hw) rfl)) ?_)))
       refine S.qg rfl g33 (r_move rfl) (S.qg rfl g33 (r_indexAddrS Try.underlying83 ti25 rfl hl_va0_1 rfl (rdl_some h37).1 (rdl_some h37).2.1) (S.qg rfl g33 (r_load ta25 rfl (fun w hw => cell_0 (hc37.sep hw) rfl)) (S.qg rfl g33 (r_len Try.underlying25 rfl hl_v37_0) (S.qg rfl g33 (r_fieldAddr tf85_0 rfl) (S.qg rfl g33 (r_load ta82 rfl (fun w hw => cell_1 (box_cells (i := 0) rfl w hw) rfl)) ?_)))))
       refine S.qg rfl g33 (r_move rfl) (S.qg rfl g33 (r_indexAddrS Try.underlying82 ti27 rfl hl_va0_0 rfl (rdl_some h43).1 (rdl_some h43).2.1) (S.qg rfl g33 (r_fieldAddr tf27_0 rfl) (S.qg rfl g33 (r_load ta3 rfl (fun w hw => cell_1 (hc43.sep hw) rfl)) (S.qg rfl g33 (r_neq rfl rfl) (S.qn rfl (r_pickf rfl rfl g33) (S.nil (F.nil ?_)))))))
       cases hE_3
       refine Nrm.only [1, 3, 47] rfl ?_
       refine Nrm.pick [0] rfl rfl ?_
       exact hj_2 _ _ ⟨rfl, rfl⟩
    ·replace hE_2 := if_ff g_2 hE_2
     refine Tri.exit ?_
     refine Exi.then ?_
     refine Exi.then ?_
     refine Exi.same ?_
     cases hE_2
     replace h := Lr_inl h
     refine Nrm.seq (Tri.seq (Tri.reg (l := [0]) rfl ?_))
     refine F.qn rfl (r_assign rfl) (F.nil (Nrm.seq (Tri.ret ?_)))
     cases h
     exact Rtn.body (.tmp rfl .nil) (fun w hw => ⟨rfl, hw.ext⟩)
 ·obtain ⟨t8, h8, hE_1⟩ := bind_some hE_1
  rcases Bool.eq_false_or_eq_true (!t8) with g10 | g10
  ·replace hE_1 := if_tt g10 hE_1
   refine Tri.reg (l := List.range 14) rfl ?_
   refine F.qn rfl (r_fieldAddr tf85_0 rfl) (F.qn rfl (r_load ta82 rfl (fun w hw => cell_1 (box_cells (i := 0) rfl w hw) rfl)) (F.qn rfl (r_len Try.underlying82 rfl hl_va0_0) ?_))
   refine F.qcn rfl (q_callF (xs := _) rfl ok105 rfl rfl (fun w hw => spec_l1In.ok h8 w )) ?_
   refine F.qn rfl (r_not rfl) (F.qn rfl (r_move rfl) ?_)
   iterate 7 refine F.skf rfl g10 ?_
   refine F.qn rfl (r_pick rfl rfl g10) (F.nil ?_)
   cases hE_1
   refine Nrm.only [1, 18] rfl ?_
   refine Nrm.pick [0] rfl rfl ?_
   exact hj_1 _ _ ⟨rfl, rfl⟩
  ·replace hE_1 := if_ff g10 hE_1
   refine Tri.reg (l := List.range 14) rfl ?_
   refine F.qn rfl (r_fieldAddr tf85_0 rfl) (F.qn rfl (r_load ta82 rfl (fun w hw => cell_1 (box_cells (i := 0) rfl w hw) rfl)) (F.qn rfl (r_len Try.underlying82 rfl hl_va0_0) ?_))
   refine F.qcn rfl (q_callF (xs := _) rfl ok105 rfl rfl (fun w hw => spec_l1In.ok h8 w )) ?_
   refine F.qn rfl (r_not rfl) (F.qn rfl (r_move rfl) (F.qg rfl g10 (r_fieldAddr tf85_1 rfl) (F.qg rfl g10 (r_load ta83 rfl (fun w hw => cell_1 (box_cells (i := 0) rfl w hw) rfl)) ?_)))
   refine F.qg rfl g10 (r_len Try.underlying83 rfl hl_va0_1) (F.qg rfl g10 (r_fieldAddr tf85_0 rfl) (F.qg rfl g10 (r_load ta82 rfl (fun w hw => cell_1 (box_cells (i := 0) rfl w hw) rfl)) (F.qg rfl g10 (r_len Try.underlying82 rfl hl_va0_0) (F.qg rfl g10 (r_neq rfl rfl) (F.qn rfl (r_pickf rfl rfl g10) (F.nil ?_))))))
   cases hE_1
   refine Nrm.only [1, 18] rfl ?_
   refine Nrm.pick [0] rfl rfl ?_
   exact hj_1 _ _ ⟨rfl, rfl⟩


def spec_l1Has.l0 (k : Nat) (a0 : List Int) (a1 : Int) : Nat → Int → Option ((Unit) ⊕ (Bool))
 | 0, _ => none
 | n + 1, x5 => (if (decide (x5 < (a0.length : Int))) = true then (rdl a0 x5).bind fun t14 => (if (t14 == a1) = true then some (Sum.inr true) else spec_l1Has.l0 k a0 a1 n (w64 (x5 + 1))) else some (Sum.inl ()))

def spec_l1Has.f (k : Nat) (a0 : List Int) (a1 : Int) : Option (Bool) := (spec_l1Has.l0 k a0 a1 k 0).bind fun s => Lr s some fun _ => some false

theorem spec_l1Has.ok {k : Nat}  {a0 : List Int} {a1 : Int} {r0 : Bool} (h : spec_l1Has.f k a0 a1 = some r0) (w : World) {va0 : Value} (hr_a0 : Rd w va0 a0) :
  Calls Try.prog 99 ([va0, .int .i64 a1] : List Value).toArray w (fun e w' => e = .returned (.bool r0) ∧ Ext w w') := by
 unfold spec_l1Has.f at h
 have hl_va0 := hr_a0.len
 refine Calls.of_tri (N := 18) Try.func99 rfl rfl rfl (Sep.nil (M := noM)) ?_
 refine Tri.seq (Tri.reg (l := [0]) rfl ?_)
 refine F.qn rfl (r_assign rfl) (F.nil (Nrm.seq (Tri.seq (Tri.seq (Tri.reg (l := [0]) rfl ?_)))))
 refine F.qn rfl (r_assign rfl) (F.nil (Nrm.seq ?_))
 obtain ⟨s0, hE_1, h⟩ := bind_some h
 refine Tri.block ?_
 refine Tri.only [0, 1, 5] rfl ?_
 refine Tri.pick [] rfl rfl ?_
 refine Tri.rounds (fun n e' C' => ∃ (x5' : Int), spec_l1Has.l0 k a0 a1 n x5' = some s0 ∧ e' = [(0, va0), (1, .int .i64 a1), (5, .int .i64 x5')] ∧ C' = Sep w noM []) k ?_ ?_ ?_
 ·exact ⟨0, hE_1, rfl, rfl⟩
 ·rintro _ _ ⟨_, hE_1, _⟩
  rw [spec_l1Has.l0.eq_1] at hE_1; cases hE_1
 ·rintro n_1 _ _ ⟨x5, hE_1, rfl, rfl⟩ ih_1
  rw [spec_l1Has.l0.eq_2] at hE_1
  refine Tri.seq (Tri.seq (Tri.reg (l := [0, 1, 2, 3]) rfl ?_))
  refine F.qn rfl (r_move rfl) (F.qn rfl (r_move rfl) (F.qn rfl (r_len Try.underlying25 rfl hl_va0) (F.qn rfl (r_lss rfl rfl) (F.nil (Nrm.seq (Tri.cond (b := decide (x5 < (a0.length : Int))) rfl (fun g_1 => ?_) (fun g_1 => ?_)))))))
  ·replace hE_1 := if_tt g_1 hE_1
   refine Tri.skip (Nrm.seq (Tri.seq (Tri.block ?_)))
   refine Tri.seq ?_
   obtain ⟨t14, h14, hE_1⟩ := bind_some hE_1
   refine Tri.reg (l := [0, 1, 2, 3, 4, 5]) rfl ?_
   refine F.qn rfl (r_move rfl) (F.qn rfl (r_move rfl) (F.qn rfl (r_indexAddrS Try.underlying25 ti3 rfl hl_va0 rfl (rdl_some h14).1 (rdl_some h14).2.1) (F.qn rfl (r_load ta3 rfl (fun w hw => cell_0 (Rd.flat ((fun _ hw => hr_a0.sep hw) w hw) (rdl_some h14).2.2) rfl)) (F.qn rfl (r_move rfl) (F.qn rfl (r_eql rfl rfl) (F.nil (Nrm.seq (Tri.cond (b := t14 == a1) rfl (fun g_2 => ?_) (fun g_2 => ?_)))))))))
   ·replace hE_1 := if_tt g_2 hE_1
    refine Tri.seq (Tri.reg (l := [0]) rfl ?_)
    refine F.qn rfl (r_assign rfl) (F.nil (Nrm.seq (Tri.ret ?_)))
    refine Rtn.block ?_
    refine Rtn.then ?_
    refine Rtn.then ?_
    refine Rtn.block ?_
    refine Rtn.then ?_
    cases hE_1
    replace h := Lr_inr h
    cases h
    exact Rtn.body (.tmp rfl .nil) (fun w hw => ⟨rfl, hw.ext⟩)
   ·replace hE_1 := if_ff g_2 hE_1
    refine Tri.skip (Nrm.block ?_)
    refine Nrm.seq (Tri.reg (l := [0, 1, 2]) rfl ?_)
    refine F.qn rfl (r_move rfl) (F.qn rfl (r_add rfl rfl) (F.qn rfl (r_assign rfl) (F.nil (Nrm.round ?_))))
    refine Rnd.only [0, 1, 5] rfl ?_
    refine Rnd.pick [] rfl rfl ?_
    exact ih_1 _ _ ⟨w64 (x5 + 1), hE_1, rfl, rfl⟩
  ·replace hE_1 := if_ff g_1 hE_1
   refine Tri.exit ?_
   refine Exi.then ?_
   refine Exi.then ?_
   refine Exi.same ?_
   cases hE_1
   replace h := Lr_inl h
   refine Nrm.seq (Tri.seq (Tri.reg (l := [0]) rfl ?_))
   refine F.qn rfl (r_assign rfl) (F.nil (Nrm.seq (Tri.ret ?_)))
   cases h
   exact Rtn.body (.tmp rfl .nil) (fun w hw => ⟨rfl, hw.ext⟩)


def spec_l2Has.f (k : Nat) (a0 : Int) (a1 : Int) : Option (Bool) := some ((band a0 a1) == a1)

theorem spec_l2Has.ok {k : Nat}  {a0 : Int} {a1 : Int} {r0 : Bool} (h : spec_l2Has.f k a0 a1 = some r0) (w : World) :
  Calls Try.prog 203 ([.int .i64 a0, .int .i64 a1] : List Value).toArray w (fun e w' => e = .returned (.bool r0) ∧ Ext w w') := by
 unfold spec_l2Has.f at h
 refine Calls.of_tri (N := 10) Try.func203 rfl rfl rfl (Sep.nil (M := noM)) ?_
 refine Tri.seq (Tri.reg (l := [0]) rfl ?_)
 refine F.qn rfl (r_assign rfl) (F.nil (Nrm.seq (Tri.seq (Tri.reg (l := [0, 1, 2, 3, 4, 5]) rfl ?_))))
 refine F.qn rfl (r_move rfl) (F.qn rfl (r_move rfl) (F.qn rfl (r_and rfl rfl) (F.qn rfl (r_move rfl) (F.qn rfl (r_eql rfl rfl) (F.qn rfl (r_assign rfl) (F.nil (Nrm.seq (Tri.ret ?_))))))))
 cases h
 exact Rtn.body (.tmp rfl .nil) (fun w hw => ⟨rfl, hw.ext⟩)

end Go.Proofs
